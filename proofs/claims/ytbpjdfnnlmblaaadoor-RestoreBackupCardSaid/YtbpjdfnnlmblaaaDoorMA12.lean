/- Parts of a proof, joined: contracts of functions of the program and plain lemmas (BakS, BakT, BakU, BakV, BakW, BakX, BakY, PlanG, LawKit, BakZ, BalA, BakP, LawKit2, LawKit3, BalB). No condition. -/
import Derived.Test.YtbpjdfnnlmblaaaDoorMA11
import Derived.Lib.ConvBytes
import Derived.Deep.Cut
import Derived.Great.BuildSlice
/- custodylaw36.value: a text of 32 equal bytes. -/
namespace Go.Proofs.YtbpjdfnnlmblaaaDoor
open Go.RowKit Go.Shelf
set_option linter.unusedSimpArgs false
set_option linter.unusedVariables false
/-- the bytes laid so far -/
def upto (c : UInt8) (k : Nat) : List UInt8 := List.replicate k c ++ List.replicate (32 - k) 0
theorem upto_len (c : UInt8) (k : Nat) (h : k ≤ 32) : (upto c k).length = 32 := by unfold upto; rw [List.length_append, List.length_replicate, List.length_replicate]; omega
theorem upto_set (c : UInt8) (k : Nat) (h : k < 32) : (upto c k).set k c = upto c (k + 1) := by
  unfold upto
  rw [List.set_append_right _ _ (by rw [List.length_replicate]; exact Nat.le_refl _), List.length_replicate, Nat.sub_self, show 32 - k = (31 - k) + 1 by omega, List.replicate_succ, List.set_cons_zero, List.replicate_succ', List.append_assoc, show 32 - (k + 1) = 31 - k by omega]
  rfl
theorem upto_full (c : UInt8) : upto c 32 = List.replicate 32 c := by unfold upto; simp
theorem bcs_set (l : List UInt8) (k : Nat) (x : UInt8) : (bcs l).toArray.setIfInBounds k (.int .u8 (B8 x)) = (bcs (l.set k x)).toArray := by
  unfold bcs
  rw [List.map_set, List.setIfInBounds_toArray]
theorem conv_bcs (w : World) (g : Nat) (l : List UInt8) (T : TypeId) (cap : Nat) (h : w.heap[g]? = some (.cells (bcs l).toArray T (0, 0))) : (convert 62 9 (.slice (some ⟨g, 0, none⟩) l.length cap)).run Tryd.prog w = .ok (.string ⟨l.toArray⟩) w := by
  rw [← strOf_u8 l]
  refine run_convert_bytes_arg w _ _ Tryd.underlying62 Tryd.underlying5 g 0 _ _ _ (by simp) (fun i hi => ?_) _ Tryd.underlying9
  rw [Nat.zero_add, cell_of_row _ _ _ _ _ _ h]
  simp [bcs, byteAt, List.getD_eq_getElem?_getD, List.getElem?_eq_getElem hi]
attribute [local irreducible] Calls
set_option maxRecDepth 100000 in
set_option maxHeartbeats 1000000 in
theorem value_c (c : UInt8) (w : World) : Calls Tryd.prog 22 #[.int .u8 (B8 c)] w fun e w' => e = .returned (.string ⟨(List.replicate 32 c).toArray⟩) ∧ Below w.heap.size w w' := by
  have hmk : ∀ w : World, (Instr.makeSlice 62 (.int .i64 32) (.int .i64 32)).run Tryd.prog w = .ok (.slice (some ⟨w.heap.size, 0, none⟩) 32 32) (w.alloc (.cells (bcs (upto c 0)).toArray 5)) := fun _ => by kernel_rfl
  go_enter Tryd.func22, Tryd.ntmps22
  go_wp2
  clear hmk
  have h0 : (w.alloc (.cells (bcs (upto c 0)).toArray 5)).heap[w.heap.size]? = some (.cells (bcs (upto c 0)).toArray 5 (0, 0)) := heap_alloc_new _ _
  have hb0 : Below w.heap.size w (w.alloc (.cells (bcs (upto c 0)).toArray 5)) := (Below.refl _ _).alloc (Nat.le_refl _) _
  go_loopw [4] (fun i wr => ∃ k : Nat, k ≤ 32 ∧ i = .int .i64 k ∧ wr.heap[w.heap.size]? = some (.cells (bcs (upto c k)).toArray 5 (0, 0)) ∧ Below w.heap.size w wr) (fun i _ => 32 - (intOf i).toNat)
  case atStart => exact ⟨0, Nat.zero_le _, rfl, h0, hb0⟩
  case round =>
    clear h0 hb0
    obtain ⟨k, hk, rfl, hg, hb⟩ := hrel
    by_cases hlt : k < 32
    · have hl := upto_len c k hk
      have hc : wr.cell? ⟨w.heap.size, k, none⟩ = some (.int .u8 (B8 (byteAt (upto c k) k))) := by
        rw [cell_of_row _ _ _ _ _ _ hg]
        simp [bcs, byteAt, List.getD_eq_getElem?_getD, List.getElem?_eq_getElem (by omega : k < (upto c k).length)]
      have hset : wr.setCell ⟨w.heap.size, k, none⟩ (.int .u8 (B8 c)) = wr.setRow w.heap.size (bcs (upto c (k + 1))).toArray := by
        rw [setCell_rowC _ _ _ _ _ _ _ hg, bcs_set, upto_set c k hlt]
      have hfr : wr.frozen? ⟨w.heap.size, k, none⟩ = false := by simp [World.frozen?, hg]
      have HS := Lib.hid hset
      have HG := Lib.hid hg
      have HB := Lib.hid hb
      clear hl hset hg hb
      go_wp2
      rw [HS.out]
      go_roundw
      case rel => exact ⟨k + 1, by omega, by go_num, setRow_heap _ _ _ _ _ _ HG.out, HB.out.trans (below_row (Nat.le_refl _))⟩
      case measure => simp [intOf]; omega
    · have he : k = 32 := by omega
      have hcv := conv_bcs wr w.heap.size (upto c 32) 5 32 (by rw [he] at hg; exact hg)
      rw [upto_len c 32 (Nat.le_refl _), upto_full] at hcv
      have HB := Lib.hid hb
      clear hg hb
      go_wp2
      go_ret
      exact ⟨rfl, HB.out⟩
end Go.Proofs.YtbpjdfnnlmblaaaDoor
/- Equal lists of keys: slices.Equal. -/
namespace Go.Proofs.YtbpjdfnnlmblaaaDoor
open Go.RowKit Go.Shelf
set_option linter.unusedSimpArgs false
set_option linter.unusedVariables false
attribute [local irreducible] Calls kEq
set_option maxRecDepth 100000 in
set_option maxHeartbeats 1500000 in
theorem equal_k (v u : Value) (l m : List K) (w : World) (hv : RdK w v l) (hu : RdK w u m) :
    Calls Tryd.prog 54 #[v, u] w fun e w' => e = .returned (.bool (decide (l = m))) ∧ Below w.heap.size w w' := by
  have hlen := hv.len
  unfold maxLen at hlen
  have hv9 := hv
  have hu9 := hu
  obtain ⟨va, vc, rfl, _, _, _⟩ := hv9
  obtain ⟨ua, uc, rfl, _, _, _⟩ := hu9
  have HV := Lib.hid hv
  have HU := Lib.hid hu
  clear hv hu
  by_cases he : l.length = m.length
  · have HL := Lib.hid he
    have e1 : ((l.length : Int) != (m.length : Int)) = false := by rw [he]; simp
    have e2 : ((l.length : Int) == (m.length : Int)) = true := by rw [he]; simp
    clear he
    go_enter Tryd.func54, Tryd.ntmps54
    go_wp2
    go_loopw [13] (fun o wr => ∃ i : Nat, i ≤ l.length ∧ o = .int .i64 i ∧ Hid (∀ j, j < i → keyAt l j = keyAt m j) ∧ ∃ n, wr = w.drewN n) (fun o _ => l.length - (intOf o).toNat)
    case atStart => exact ⟨0, Nat.zero_le _, rfl, Lib.hid (fun j hj => absurd hj (by omega)), 0, rfl⟩
    case round =>
      obtain ⟨i, hi, rfl, hno, n, rfl⟩ := hrel
      clear e1 e2
      by_cases hlt : i < l.length
      · obtain ⟨bb, off, rfl, hb1, hrow⟩ := (HV.out.cells) (by omega)
        obtain ⟨b2, off2, rfl, hb2, hrow2⟩ := (HU.out.cells) (by have := HL.out; omega)
        have hneq := fun w' => neq_k (keyAt l i) (keyAt m i) w'
        rw [kEq_eq] at hneq
        unfold kc at hneq
        obtain ⟨d0, d1, d2, d3, d4, d5, d6, d7, d8⟩ := hrow i hlt
        obtain ⟨x0, x1, x2, x3, x4, x5, x6, x7, x8⟩ := hrow2 i (by have := HL.out; omega)
        have i1 : (i : Int) < l.length := by omega
        have i2 : (i : Int) < m.length := by have := HL.out; omega
        have i3 : i < m.length := by have := HL.out; omega
        have HK := Lib.hid hlt
        have HNO := hno
        clear hrow hrow2 hno
        by_cases hq : keyAt l i = keyAt m i
        · rw [decide_eq_true hq] at hneq
          have HQ := Lib.hid hq
          clear hq
          go_wp2
          first | refine allD (by kernel_rfl) (by kernel_rfl) ?_ | refine all0 (by kernel_rfl) (by kernel_rfl) ?_
          repeat (go_big_quiet_step (fail))
          refine wpQuiet_nil ?_
          rintro _ ⟨nq, rfl⟩
          go_wp2
          go_roundw
          case rel => exact ⟨i + 1, HK.out, by go_num, Lib.hid (fun j hj => by
            by_cases e : j = i
            · subst e; exact HQ.out
            · exact HNO.out j (by omega)), _, rfl⟩
          case measure => have := HK.out; simp [intOf]; omega
        · rw [decide_eq_false hq] at hneq
          have hres : decide (l = m) = false := decide_eq_false (fun e => hq (by rw [e]))
          have HRES := Lib.hid hres
          clear hq hres
          go_wp2
          first | refine allD (by kernel_rfl) (by kernel_rfl) ?_ | refine all0 (by kernel_rfl) (by kernel_rfl) ?_
          repeat (go_big_quiet_step (fail))
          refine wpQuiet_nil ?_
          rintro _ ⟨nq, rfl⟩
          go_wp2
          go_ret
          exact ⟨by rw [HRES.out]; rfl, below_drewN _ (Below.refl _ _)⟩
      · have i1 : (l.length : Int) ≤ i := by omega
        have hres : decide (l = m) = true := decide_eq_true (ext_k HL.out (fun j hj => hno.out j (by omega)))
        have HRES := Lib.hid hres
        clear hno hres hlt hi
        go_wp2
        go_ret
        exact ⟨by rw [HRES.out]; rfl, below_drewN _ (Below.refl _ _)⟩
  · have e1 : ((l.length : Int) != (m.length : Int)) = true := by simp; omega
    have e2 : ((l.length : Int) == (m.length : Int)) = false := by simp; omega
    have hres : decide (l = m) = false := decide_eq_false (fun e => he (by rw [e]))
    go_enter Tryd.func54, Tryd.ntmps54
    go_wp2
    go_ret
    exact ⟨by rw [hres]; rfl, Below.refl _ _⟩
end Go.Proofs.YtbpjdfnnlmblaaaDoor
/- Is a key among the keys: slices.Index, slices.Contains. -/
namespace Go.Proofs.YtbpjdfnnlmblaaaDoor
open Go.RowKit Go.Shelf
set_option linter.unusedSimpArgs false
set_option linter.unusedVariables false
/-- where the key lies first, or -1 -/
def firstK (x : K) (l : List K) : Int := firstIx (fun k => decide (k = x)) l
theorem eql_k (a b : K) (w : World) : (binOp .eql 48 (.agg (kc a)) (.agg (kc b))).run Tryd.prog w = .ok (.bool (kEq a b)) w := by
  have h := neq_k a b w
  rw [run_neq_struct] at h
  rw [run_eql_struct]
  generalize (Op.equalIn 10000 48 (.agg (kc a)) (.agg (kc b))).run Tryd.prog w = E at h ⊢
  cases E with
  | ok x w1 =>
    simp only [Result.andThen, Result.ok.injEq, Value.bool.injEq] at h ⊢
    obtain ⟨h1, h2⟩ := h
    refine ⟨?_, h2⟩
    cases x <;> cases hk : kEq a b <;> simp_all
  | _ => simp [Result.andThen] at h
attribute [local irreducible] Calls kEq
set_option maxRecDepth 100000 in
set_option maxHeartbeats 1500000 in
theorem index_k (v : Value) (l : List K) (x : K) (w : World) (hv : RdK w v l) :
    Calls Tryd.prog 73 #[v, kv x] w fun e w' => e = .returned (.int .i64 (firstK x l)) ∧ Below w.heap.size w w' := by
  have hlen := hv.len
  unfold maxLen at hlen
  have hv9 := hv
  obtain ⟨va, vc, rfl, _, _, _⟩ := hv9
  obtain ⟨W0, hW0⟩ : ∃ W0, W0 = w.alloc (.cells (kc x) 48) := ⟨_, rfl⟩
  have HW := Lib.hid hW0
  have HBE : Hid (Below w.heap.size w W0) := Lib.hid (by rw [hW0]; exact (Below.refl _ _).alloc (Nat.le_refl _) _)
  have hbk : W0.heap[w.heap.size]? = some (.cells (kc x) 48 (0, 0)) := by rw [hW0]; exact heap_last _ _ _ rfl
  have HX : Hid (Nine W0 w.heap.size 0 x) := Lib.hid (by unfold Nine; refine ⟨?_, ?_, ?_, ?_, ?_, ?_, ?_, ?_, ?_⟩ <;> (rw [cell_of_row _ _ _ _ _ _ hbk]; rfl))
  have HV : Hid (RdK W0 (.slice va l.length vc) l) := Lib.hid (by rw [hW0]; exact hv.alloc _)
  clear hv hW0 hbk
  unfold kv
  go_enter Tryd.func73, Tryd.ntmps73
  go_wp2
  rw [← HW.out]
  go_loopw [8] (fun o wr => ∃ i : Nat, i ≤ l.length ∧ o = .int .i64 i ∧ Hid (∀ j, j < i → keyAt l j ≠ x) ∧ ∃ n, wr = W0.drewN n) (fun o _ => l.length - (intOf o).toNat)
  case atStart => exact ⟨0, Nat.zero_le _, rfl, Lib.hid (fun j hj => absurd hj (by omega)), 0, rfl⟩
  case round =>
    obtain ⟨i, hi, rfl, hno, n, rfl⟩ := hrel
    by_cases hlt : i < l.length
    · obtain ⟨bb, off, rfl, hb1, hrow⟩ := (HV.out.cells) (by omega)
      have hneq := fun w' => eql_k x (keyAt l i) w'
      rw [kEq_eq] at hneq
      unfold kc at hneq
      obtain ⟨d0, d1, d2, d3, d4, d5, d6, d7, d8⟩ := hrow i hlt
      obtain ⟨x0, x1, x2, x3, x4, x5, x6, x7, x8⟩ := HX.out
      rw [Nat.zero_add] at x1 x2 x3 x4 x5 x6 x7 x8
      have i1 : (i : Int) < l.length := by omega
      have HK := Lib.hid hlt
      have HNO := hno
      clear hrow hno
      by_cases hq : x = keyAt l i
      · rw [decide_eq_true hq] at hneq
        have hres : firstK x l = i := firstIx_hit _ l i hlt (fun j hj => decide_eq_false (HNO.out j hj)) (decide_eq_true hq.symm)
        have HRES := Lib.hid hres
        clear hq hres
        go_wp2
        first | refine allD (by kernel_rfl) (by kernel_rfl) ?_ | refine all0 (by kernel_rfl) (by kernel_rfl) ?_
        repeat (go_big_quiet_step (fail))
        refine wpQuiet_nil ?_
        rintro _ ⟨nq, rfl⟩
        go_wp2
        go_ret
        exact ⟨by rw [HRES.out]; rfl, below_drewN _ HBE.out⟩
      · rw [decide_eq_false hq] at hneq
        have HQ := Lib.hid hq
        clear hq
        go_wp2
        first | refine allD (by kernel_rfl) (by kernel_rfl) ?_ | refine all0 (by kernel_rfl) (by kernel_rfl) ?_
        repeat (go_big_quiet_step (fail))
        refine wpQuiet_nil ?_
        rintro _ ⟨nq, rfl⟩
        go_wp2
        go_roundw
        case rel => exact ⟨i + 1, HK.out, by go_num, Lib.hid (fun j hj => by
          by_cases e : j = i
          · subst e; exact fun e9 => HQ.out e9.symm
          · exact HNO.out j (by omega)), _, rfl⟩
        case measure => have := HK.out; simp [intOf]; omega
    · have i1 : (l.length : Int) ≤ i := by omega
      have hres : firstK x l = -1 := firstIx_miss _ l (fun j hj => decide_eq_false (hno.out j (by omega)))
      have HRES := Lib.hid hres
      clear hno hres hlt hi
      go_wp2
      go_ret
      exact ⟨by rw [HRES.out]; rfl, below_drewN _ HBE.out⟩
end Go.Proofs.YtbpjdfnnlmblaaaDoor
/- Is a key among the keys: slices.Contains. -/
namespace Go.Proofs.YtbpjdfnnlmblaaaDoor
open Go.RowKit Go.Shelf
set_option linter.unusedSimpArgs false
set_option linter.unusedVariables false
theorem firstK_ge (x : K) (l : List K) : decide ((0 : Int) ≤ firstK x l) = decide (x ∈ l) := by
  unfold firstK firstIx
  cases h : l.findIdx? (fun k => decide (k = x)) with
  | none =>
    rw [List.findIdx?_eq_none_iff] at h
    have : ¬ x ∈ l := fun hm => by have := h x hm; simp at this
    simp [this]
  | some i =>
    rw [List.findIdx?_eq_some_iff_getElem] at h
    obtain ⟨hi, h1, _⟩ := h
    have : x ∈ l := by rw [← of_decide_eq_true h1]; exact List.getElem_mem hi
    simp [this]
attribute [local irreducible] Calls kEq firstK
set_option maxRecDepth 100000 in
set_option maxHeartbeats 1500000 in
theorem contains_k (v : Value) (l : List K) (x : K) (w : World) (hv : RdK w v l) :
    Calls Tryd.prog 42 #[v, kv x] w fun e w' => e = .returned (.bool (decide (x ∈ l))) ∧ Below w.heap.size w w' := by
  have HR := Lib.hid (firstK_ge x l)
  have hbx : Below w.heap.size w (w.alloc (.cells (kc x) 48)) := (Below.refl _ _).alloc (Nat.le_refl _) _
  have hc : Calls Tryd.prog 73 #[v, kv x] (w.alloc (.cells (kc x) 48)) fun e w' => e = .returned (.int .i64 (firstK x l)) ∧ Below w.heap.size w w' :=
    (index_k v l x _ (hv.alloc _)).mono (fun e w' h => ⟨h.1, hbx.trans (h.2.mono (by simp))⟩)
  have HC := Lib.hid hc
  have hc2 : Calls Tryd.prog 73 #[v, kv x] w fun e w' => e = .returned (.int .i64 (firstK x l)) ∧ Below w.heap.size w w' := index_k v l x w hv
  have HC2 := Lib.hid hc2
  clear hc hc2 hv hbx
  unfold kv at HC HC2 ⊢
  unfold kc at HC HC2 ⊢
  generalize firstK x l = f at HC HC2 HR
  by_cases h0 : (0 : Int) ≤ f
  · have h1 : ¬ f < 0 := by omega
    have hres : decide (x ∈ l) = true := by rw [← HR.out, decide_eq_true h0]
    rw [hres]
    go_enter Tryd.func42, Tryd.ntmps42
    go_wp2_with (go_at_call 73; (first | (refine HC.out.mono ?_) | (refine HC2.out.mono ?_)); rintro e w1 ⟨rfl, hb⟩)
    go_ret
    exact ⟨rfl, hb⟩
  · have h1 : f < 0 := by omega
    have hres : decide (x ∈ l) = false := by rw [← HR.out, decide_eq_false h0]
    rw [hres]
    go_enter Tryd.func42, Tryd.ntmps42
    go_wp2_with (go_at_call 73; (first | (refine HC.out.mono ?_) | (refine HC2.out.mono ?_)); rintro e w1 ⟨rfl, hb⟩)
    go_ret
    exact ⟨by show Ending.returned (.bool (decide (0 ≤ f))) = _; rw [decide_eq_false (by omega)], hb⟩
end Go.Proofs.YtbpjdfnnlmblaaaDoor
/- The test of backup.Complete: a key that the backup lacks. -/
namespace Go.Proofs.YtbpjdfnnlmblaaaDoor
open Go.RowKit Go.Shelf
set_option linter.unusedSimpArgs false
set_option linter.unusedVariables false
theorem egComp : ∀ args w, (callFunc 41 args).run Tryd.prog w = .ok (.enter 41 args) w := enters_of Tryd.func41 (by kernel_rfl) rfl
attribute [local irreducible] Calls
set_option maxRecDepth 100000 in
set_option maxHeartbeats 2000000 in
theorem comp_pred (b : BK) (v : Value) (l : List K) (B : Nat) (w : World) (hv : RdK w v l) (hB : w.heap[B]? = some (.cells (bc b v) 26 (0, 0))) :
    PredB 41 #[.pointer (some ⟨B, 0, none⟩)] (fun x => !decide (x ∈ l)) w := fun W x hb => by
  have zB : B < w.heap.size := (Array.getElem?_eq_some_iff.1 hB).1
  have hW := hb.size
  have b37 : W.cell? ⟨B, 37, none⟩ = some v := by rw [hb.cell (p := ⟨B, 37, none⟩) zB, cell_of_row _ _ _ _ _ _ hB]; exact bc_37 _ _
  have l1 : B < W.heap.size := by omega
  have n1 : B ≠ W.heap.size := by omega
  have hbx : Below W.heap.size W (W.alloc (.cells (kc x) 48)) := (Below.refl _ _).alloc (Nat.le_refl _) _
  have hc := contains_k v l x (W.alloc (.cells (kc x) 48)) ((hv.on hb).alloc _)
  have HBX : Hid (∀ w1, Below (W.alloc (.cells (kc x) 48)).heap.size (W.alloc (.cells (kc x) 48)) w1 → Below w.heap.size w w1) :=
    Lib.hid (fun w1 h => hb.trans ((hbx.trans (h.mono (by simp))).mono hW))
  unfold kv kc at hc
  unfold kc at HBX
  have HC := Lib.hid hc
  obtain ⟨a, cap, rfl, _, _, _⟩ := hv
  clear hc hb hB hbx
  show Calls Tryd.prog 41 #[.agg #[.int .i64 x.id, .int .i64 x.ty, .string ⟨x.val.toArray⟩, .int .i64 x.uses, .int .i64 x.start, .int .i64 x.fin, .int .i64 x.ver, .int .i64 x.par, .bool x.raw], .pointer (some ⟨B, 0, none⟩)] W _
  go_enter Tryd.func41, Tryd.ntmps41
  go_wp2_with (go_at_call 42; refine HC.out.mono ?_; rintro e w1 ⟨rfl, hb'⟩; have hbb := HBX.out _ hb')
  go_ret
  exact ⟨by simp, hbb⟩
end Go.Proofs.YtbpjdfnnlmblaaaDoor
/- custodylaw36.starts: no key of a table starts after a time. -/
namespace Go.Proofs.YtbpjdfnnlmblaaaDoor
open Go.RowKit Go.Shelf
set_option linter.unusedSimpArgs false
set_option linter.unusedVariables false
def startsB (l : List K) (now : Int) : Bool := l.all (fun k => decide (k.start ≤ now))
attribute [local irreducible] Calls
set_option maxRecDepth 100000 in
set_option maxHeartbeats 2000000 in
theorem starts_c (nx : Int) (v : Value) (l : List K) (now : Int) (w : World) (hv : RdK w v l) :
    Calls Tryd.prog 14 #[.agg #[.int .i64 nx, v], .int .i64 now] w fun e w' => e = .returned (.bool (startsB l now)) ∧ Below w.heap.size w w' := by
  have hlen := hv.len
  unfold maxLen at hlen
  have hv9 := hv
  obtain ⟨va, vc, rfl, _, _, _⟩ := hv9
  obtain ⟨W0, hW0⟩ : ∃ W0, W0 = w.alloc (.cells #[.int .i64 nx, .slice va l.length vc] 37) := ⟨_, rfl⟩
  have HW := Lib.hid hW0
  have HBE : Hid (Below w.heap.size w W0) := Lib.hid (by rw [hW0]; exact (Below.refl _ _).alloc (Nat.le_refl _) _)
  have hR : W0.heap[w.heap.size]? = some (.cells #[.int .i64 nx, .slice va l.length vc] 37 (0, 0)) := by rw [hW0]; exact heap_last _ _ _ rfl
  have HV : Hid (RdK W0 (.slice va l.length vc) l) := Lib.hid (by rw [hW0]; exact hv.alloc _)
  have a0 : W0.cell? ⟨w.heap.size, 0, none⟩ = some (.int .i64 nx) := by rw [cell_of_row _ _ _ _ _ _ hR]; rfl
  have a1 : W0.cell? ⟨w.heap.size, 1, none⟩ = some (.slice va l.length vc) := by rw [cell_of_row _ _ _ _ _ _ hR]; rfl
  clear hv hW0 hR
  go_enter Tryd.func14, Tryd.ntmps14
  go_upto_region 1 with fail
  rw [← HW.out]
  go_wp2
  go_loopw [5] (fun o wr => ∃ i : Nat, i ≤ l.length ∧ o = .int .i64 i ∧ Hid (∀ j, j < i → (keyAt l j).start ≤ now) ∧ wr = W0) (fun o _ => l.length - (intOf o).toNat)
  case atStart => exact ⟨0, Nat.zero_le _, rfl, Lib.hid (fun j hj => absurd hj (by omega)), rfl⟩
  case round =>
    obtain ⟨i, hi, rfl, hno, hwr⟩ := hrel
    rw [hwr]
    clear hwr
    by_cases hlt : i < l.length
    · obtain ⟨bb, off, rfl, hb1, hrow⟩ := (HV.out.cells) (by omega)
      obtain ⟨d0, d1, d2, d3, d4, d5, d6, d7, d8⟩ := hrow i hlt
      have i1 : (i : Int) < l.length := by omega
      have HK := Lib.hid hlt
      have HNO := hno
      clear hrow hno
      by_cases hq : (keyAt l i).start ≤ now
      · have i2 : ¬ now < (keyAt l i).start := by omega
        have HQ := Lib.hid hq
        clear hq
        go_wp2
        go_roundw
        case rel => exact ⟨i + 1, HK.out, by go_num, Lib.hid (fun j hj => by
          by_cases e : j = i
          · subst e; exact HQ.out
          · exact HNO.out j (by omega)), by first | exact rfl | exact trivial⟩
        case measure => have := HK.out; simp [intOf]; omega
      · have i2 : now < (keyAt l i).start := by omega
        have hres : startsB l now = false := by
          unfold startsB
          rw [List.all_eq_false]
          refine ⟨keyAt l i, ?_, by simpa using hq⟩
          rw [keyAt_eq l i hlt]
          exact List.getElem_mem hlt
        have HRES := Lib.hid hres
        clear hq hres hlt
        go_wp2
        go_ret
        exact ⟨by rw [HRES.out]; rfl, HBE.out⟩
    · have i1 : (l.length : Int) ≤ i := by omega
      have hall : startsB l now = true := by
        unfold startsB
        rw [List.all_eq_true]
        intro k hk
        obtain ⟨j, hj, rfl⟩ := List.mem_iff_getElem.1 hk
        have := hno.out j (by omega)
        rw [keyAt_eq l j hj] at this
        simpa using this
      have HA := Lib.hid hall
      clear hno hall hlt hi
      go_wp2
      go_ret
      exact ⟨by rw [HA.out]; rfl, HBE.out⟩
end Go.Proofs.YtbpjdfnnlmblaaaDoor
/- Selecting the live keys, and being complete: in plain words. -/
namespace Go.Proofs.YtbpjdfnnlmblaaaDoor
open Go.RowKit Go.Shelf
set_option linter.unusedSimpArgs false
set_option linter.unusedVariables false
/-- the live keys -/
def selK (now : Int) (l : List K) : List K := l.filter (liveK now)
/-- every live key is among bl -/
def compB (bl tl : List K) (now : Int) : Bool := !((selK now tl).any (fun x => !decide (x ∈ bl)))
theorem selK_take (now : Int) (l : List K) (i : Nat) (h : i < l.length) : selK now (l.take (i + 1)) = if liveK now (keyAt l i) = true then selK now (l.take i) ++ [keyAt l i] else selK now (l.take i) := by
  unfold selK
  rw [take_keyAt l i h, List.filter_append]
  by_cases hq : liveK now (keyAt l i) = true
  · rw [if_pos hq, List.filter_cons_of_pos hq, List.filter_nil]
  · rw [if_neg hq, List.filter_cons_of_neg hq, List.filter_nil, List.append_nil]
theorem selK_len (now : Int) (l : List K) : (selK now l).length ≤ l.length := List.length_filter_le _ _
theorem selK_take_len (now : Int) (l : List K) (i : Nat) : (selK now (l.take i)).length ≤ l.length := Nat.le_trans (selK_len _ _) (by rw [List.length_take]; omega)
theorem compB_iff (bl tl : List K) (now : Int) : compB bl tl now = true ↔ ∀ x ∈ tl, liveK now x = true → x ∈ bl := by
  unfold compB selK
  rw [Bool.not_eq_true', List.any_eq_false]
  constructor
  · intro h x hx hl
    have := h x (List.mem_filter.2 ⟨hx, hl⟩)
    simpa using this
  · intro h x hx
    have hm := List.mem_filter.1 hx
    have := h x hm.1 hm.2
    simp [this]
theorem compB_sel (tl : List K) (now : Int) : compB (selK now tl) tl now = true := (compB_iff _ _ _).2 (fun x hx hl => List.mem_filter.2 ⟨hx, hl⟩)
theorem compB_later (tl : List K) (now later : Int) (h : now ≤ later) (hs : startsB tl now = true) : compB (selK now tl) tl later = true := by
  rw [compB_iff]
  intro x hx hl
  refine List.mem_filter.2 ⟨hx, ?_⟩
  unfold startsB at hs
  rw [List.all_eq_true] at hs
  have h1 := hs x hx
  unfold liveK at hl ⊢
  simp only [Bool.and_eq_true, decide_eq_true_eq] at h1 hl ⊢
  omega
theorem compB_all (tl : List K) (now : Int) : compB tl tl now = true := (compB_iff _ _ _).2 (fun x hx _ => hx)
end Go.Proofs.YtbpjdfnnlmblaaaDoor
/- Both Plans, whatever the backup and the time. -/
namespace Go.Proofs.YtbpjdfnnlmblaaaDoor
open Go.RowKit Go.Shelf
set_option linter.unusedSimpArgs false
set_option linter.unusedVariables false
theorem plan_c (nx now : Int) (v u : Value) (tl bl : List K) (b : BK) (w : World) (hv : RdK w v tl) (hu : RdK w u bl) (hwf : ∀ i, i < bl.length → (keyAt bl i).wf) (hmo : b.mo.length ≤ maxLen) (htl : tl.length ≤ 1000) (hbl : bl.length ≤ 40) (htab : validTab nx tl = true) :
    Calls Tryd.prog 17 #[.agg #[.int .i64 nx, v], .agg (bc b u), .int .i64 now] w (PlanT w (planK nx tl b bl now)) := by
  rcases planK_four nx tl b bl now with ⟨h1, hr⟩ | ⟨h1, h2, hr⟩ | ⟨h1, h2, h3, hr⟩ | ⟨h1, h2, h3, hr⟩
  · rw [hr]; exact (plan_cn nx now v u tl bl b w hu hwf hmo (.inl h1)).mono fun e w' h => planT_no rfl h.1 h.2
  · rw [hr]; exact (plan_cn nx now v u tl bl b w hu hwf hmo (.inr (.inl h2))).mono fun e w' h => planT_no rfl h.1 h.2
  · rw [hr]; exact (plan_cn nx now v u tl bl b w hu hwf hmo (.inr (.inr h3))).mono fun e w' h => planT_no rfl h.1 h.2
  · rw [hr]; exact plan_cy nx now v u tl bl b w hv hu hwf hmo htl hbl htab h1 h2 h3
end Go.Proofs.YtbpjdfnnlmblaaaDoor
/- What the laws on restoring lean on. -/
namespace Go.Proofs.YtbpjdfnnlmblaaaDoor
open Go.RowKit
set_option linter.unusedSimpArgs false
set_option linter.unusedVariables false
theorem row_keep {W W' : World} {g : Nat} {X : Obj} (h : W.heap[g]? = some X) (hb : Below W.heap.size W W') : W'.heap[g]? = some X := by
  rw [hb.block _ (Array.getElem?_eq_some_iff.1 h).1]; exact h
theorem two_0 (w : World) (A B : Obj) : ((w.alloc A).alloc B).heap[w.heap.size]? = some A := by
  rw [((Below.refl (w.alloc A).heap.size _).alloc (Nat.le_refl _) B).block _ (by simp)]
  exact heap_alloc_new _ _
theorem two_1 (w : World) (A B : Obj) : ((w.alloc A).alloc B).heap[w.heap.size + 1]? = some B := by
  have h := heap_alloc_new (w.alloc A) B
  rwa [World.size_alloc] at h
theorem validB_num {b : BK} {l : List K} (h : validB b l = true) : 0 ≤ b.num ∧ b.num ≤ 2147483647 := by
  unfold validB headB at h
  simp only [Bool.and_eq_true] at h
  exact (win_iff _ _ _).1 h.1.1.1.1.1.1.2
/-- the place one number on -/
def pnext (p : PK) (n : Int) : PK := ⟨p.dom, p.pol, p.fw, n⟩
theorem pc_set33 {w : World} {g : Nat} {T : TypeId} {p : PK} (n : Int) (h : w.heap[g]? = some (.cells (pc p) T (0, 0))) : (w.setCell ⟨g, 33, none⟩ (.int .i64 n)).heap[g]? = some (.cells (pc (pnext p n)) T (0, 0)) := by
  have h1 := setRow_heap w g _ ((pc p).setIfInBounds 33 (.int .i64 n)) _ _ h
  rw [← setCell_rowK _ _ _ _ _ _ _ h] at h1
  exact h1
theorem admit_next {p : PK} {b : BK} {l : List K} (h : admitK p b l = 0) : admitK (pnext p (b.num + 1)) b l = 20 := by
  rcases admit_six p b l with ⟨_, hr⟩ | ⟨_, _, hr⟩ | ⟨_, _, _, hr⟩ | ⟨_, _, _, _, hr⟩ | ⟨_, _, _, _, _, hr⟩ | ⟨h1, h2, h3, h4, h5, hr⟩
  · rw [hr] at h; cases h
  · rw [hr] at h; cases h
  · rw [hr] at h; cases h
  · rw [hr] at h; cases h
  · rw [hr] at h; cases h
  · unfold admitK
    rw [if_pos h1, if_pos ⟨h2, h3⟩, if_neg]
    intro h6
    have : b.num + 1 ≤ b.num := h6.2
    omega
/-- a row, or a part of one, is loaded in a region that draws its order -/
theorem qq_row {ops : Array Oper} {C : World → Prop} {Q : Act → Prop} {a : Act} {o : Oper} {rest : List Oper} (hw : Region.wanted o (yielded ops a.tmps) = true) (ty : TypeId) (x : Operand) (ho : o.op = .load ty x)
    (g off : Nat) (hx : a.eval x = .pointer (some ⟨g, off, none⟩)) (cs : Array Value) (hC : ∀ w', C w' → (loadVar ty ⟨g, off, none⟩).run Tryd.prog w' = .ok (.agg cs) w')
    (h : wpQuiet Tryd.prog ops C Q rest (a.put o.dst (.agg cs))) : wpQuiet Tryd.prog ops C Q (o :: rest) a := by
  unfold wpQuiet
  rw [if_pos hw]
  refine ⟨.agg cs, fun w' hw' => ?_, h⟩
  unfold Oper.quietAt execOp
  simp only [ho, hx, Instr.loadAt, Instr.sureAddr, Sem.run_bind, Sem.run_pure, Result.andThen_ok, hC w' hw']
  exact ⟨rfl, rfl⟩
theorem ru_bk (b : BK) (u : Value) {w : World} {g : Nat} (h : w.heap[g]? = some (.cells (bc b u) 26 (0, 0))) : (loadVar 26 ⟨g, 0, none⟩).run Tryd.prog w = .ok (.agg (bc b u)) w :=
  run_loadVar_row w g _ _ (bc b u) _ _ h Tryd.underlying26 rfl (by rw [bc_size]; exact info_b)
theorem ru_pk (p : PK) {w : World} {g : Nat} (h : w.heap[g]? = some (.cells (pc p) 82 (0, 0))) : (loadVar 82 ⟨g, 0, none⟩).run Tryd.prog w = .ok (.agg (pc p)) w :=
  run_loadVar_row w g _ _ (pc p) _ _ h Tryd.underlying82 rfl (by rw [pc_size]; exact info_p)
theorem ru_dig (d : List UInt8) {w : World} {g off : Nat} (h : w.rangeAt g off (drow d).toList) : (loadVar 23 ⟨g, off, none⟩).run Tryd.prog w = .ok (.agg (drow d)) w :=
  run_loadVar_mid w g off _ (drow d).toList _ h Tryd.underlying23 rfl info_d
theorem four_0 (w : World) (A B C D : Obj) : ((((w.alloc A).alloc B).alloc C).alloc D).heap[w.heap.size]? = some A := by
  have h := (((Below.refl (w.alloc A).heap.size (w.alloc A)).alloc (Nat.le_refl _) B).alloc (by simp) C).alloc (by simp) D
  rw [h.block _ (by simp)]
  exact heap_alloc_new _ _
theorem four_1 (w : World) (A B C D : Obj) : ((((w.alloc A).alloc B).alloc C).alloc D).heap[w.heap.size + 1]? = some B := by
  have h := ((Below.refl ((w.alloc A).alloc B).heap.size ((w.alloc A).alloc B)).alloc (Nat.le_refl _) C).alloc (by simp) D
  rw [h.block _ (by simp)]
  exact two_1 _ _ _
theorem four_2 (w : World) (A B C D : Obj) : ((((w.alloc A).alloc B).alloc C).alloc D).heap[w.heap.size + 1 + 1]? = some C := by
  have h := (Below.refl (((w.alloc A).alloc B).alloc C).heap.size (((w.alloc A).alloc B).alloc C)).alloc (Nat.le_refl _) D
  rw [h.block _ (by simp)]
  have h2 := heap_alloc_new ((w.alloc A).alloc B) C
  rw [World.size_alloc, World.size_alloc] at h2
  exact h2
theorem four_3 (w : World) (A B C D : Obj) : ((((w.alloc A).alloc B).alloc C).alloc D).heap[w.heap.size + 1 + 1 + 1]? = some D := by
  have h2 := heap_alloc_new (((w.alloc A).alloc B).alloc C) D
  rw [World.size_alloc, World.size_alloc, World.size_alloc] at h2
  exact h2
theorem below4 (w : World) (A B C D : Obj) {w1 : World} (h : Below ((((w.alloc A).alloc B).alloc C).alloc D).heap.size ((((w.alloc A).alloc B).alloc C).alloc D) w1) : Below w.heap.size w w1 :=
  kbelow3 w A B C ((Below.refl _ _).alloc (Nat.le_refl _) D |>.trans (h.mono (by simp)))
/-! what a plan comes to: the number, the keys, the Ids, the error -/
def rn : Except Int PS → Int
  | .ok s => s.nx
  | .error _ => 0
def rk : Except Int PS → List K
  | .ok s => s.ks
  | .error _ => []
def ri : Except Int PS → List Int
  | .ok s => s.ids
  | .error _ => []
def re : Except Int PS → Int
  | .ok _ => 0
  | .error c => c
theorem planT_out {w w' : World} {r : Except Int PS} {e : Ending} (h : PlanT w r e w') : ∃ a c a2 c2, e = .returned (.tuple #[.agg #[.int .i64 (rn r), .slice a (rk r).length c], .slice a2 (ri r).length c2, .int .i64 (re r)]) ∧
    RdK w' (.slice a (rk r).length c) (rk r) ∧ RdI w' (.slice a2 (ri r).length c2) (ri r) ∧ Below w.heap.size w w' := by
  obtain ⟨hb, h⟩ := h
  cases r with
  | ok s =>
    obtain ⟨v, vi, he, h1, h2⟩ := h
    obtain ⟨a, c, rfl, _, _, _⟩ := id h1
    obtain ⟨a2, c2, rfl, _, _, _⟩ := id h2
    exact ⟨a, c, a2, c2, he, h1, h2, hb⟩
  | error c => exact ⟨none, 0, none, 0, h, RdK.nil _, RdI.nil _, hb⟩
theorem planR_out {w w' : World} {r : Except Int PS} {e : Ending} (h : PlanR w r e w') : ∃ a c a2 c2, e = .returned (.agg #[.int .i64 (rn r), .slice a (rk r).length c, .slice a2 (ri r).length c2, .int .i64 (re r)]) ∧
    RdK w' (.slice a (rk r).length c) (rk r) ∧ RdI w' (.slice a2 (ri r).length c2) (ri r) ∧ Below w.heap.size w w' := by
  obtain ⟨hb, h⟩ := h
  cases r with
  | ok s =>
    obtain ⟨v, vi, he, h1, h2⟩ := h
    obtain ⟨a, c, rfl, _, _, _⟩ := id h1
    obtain ⟨a2, c2, rfl, _, _, _⟩ := id h2
    exact ⟨a, c, a2, c2, he, h1, h2, hb⟩
  | error c => exact ⟨none, 0, none, 0, h, RdK.nil _, RdI.nil _, hb⟩
theorem sameT_refl (n : Int) (v u : Value) (l : List K) (w : World) (hv : RdK w v l) (hu : RdK w u l) :
    Calls Tryd.prog 45 #[.agg #[.int .i64 n, v], .agg #[.int .i64 n, u]] w fun e w' => e = .returned (.bool true) ∧ Below w.heap.size w w' := by
  have h := sameT n n v u l l w hv hu
  rw [decide_eq_true ⟨rfl, rfl⟩] at h
  exact h
end Go.Proofs.YtbpjdfnnlmblaaaDoor
/- The program's Select and Complete. -/
namespace Go.Proofs.YtbpjdfnnlmblaaaDoor
open Go.RowKit Go.Shelf
set_option linter.unusedSimpArgs false
set_option linter.unusedVariables false
attribute [local irreducible] Calls liveK selK
set_option maxRecDepth 100000 in
set_option maxHeartbeats 4000000 in
theorem select_c (nx now : Int) (v : Value) (l : List K) (w : World) (hv : RdK w v l) (hl : l.length ≤ 5000) :
    Calls Tryd.prog 12 #[.agg #[.int .i64 nx, v], .int .i64 now] w fun e w' => ∃ v', e = .returned v' ∧ RdK w' v' (selK now l) ∧ Below w.heap.size w w' := by
  have hlen := hv.len
  unfold maxLen at hlen
  obtain ⟨W0, hW0⟩ : ∃ W0, W0 = w.alloc (.cells #[.int .i64 nx, v] 37) := ⟨_, rfl⟩
  have HV : Hid (RdK W0 v l) := Lib.hid (by rw [hW0]; exact hv.alloc _)
  have HBX : Hid (∀ w1, Below W0.heap.size W0 w1 → w1.cell? ⟨w.heap.size, 0, none⟩ = some (.int .i64 nx) ∧ w1.cell? ⟨w.heap.size, 1, none⟩ = some v) := Lib.hid (by
    intro w1 h
    rw [hW0] at h
    exact ⟨boxed1 _ _ _ h 0, boxed1 _ _ _ h 1⟩)
  have HBE : Hid (∀ w1, Below W0.heap.size W0 w1 → Below w.heap.size w w1) := Lib.hid (by
    intro w1 h
    rw [hW0] at h
    exact below1 _ _ h)
  have hsz : w.heap.size < W0.heap.size := by rw [hW0]; simp
  have HW := Lib.hid hW0
  have HL := Lib.hid hl
  have HS := Lib.hid (fun i h => selK_take now l i h)
  have HSL := Lib.hid (fun i => selK_take_len now l i)
  have HALL : Hid (∀ i, ¬ i < l.length → selK now (l.take i) = selK now l) := Lib.hid (fun i h => by rw [List.take_of_length_le (by omega)])
  have HNIL : Hid (selK now (l.take 0) = []) := Lib.hid (by rw [List.take_zero]; unfold selK; rfl)
  obtain ⟨a, cap, rfl, _, _, _⟩ := hv
  clear hW0 hl
  go_enter Tryd.func12, Tryd.ntmps12
  go_wp2
  go_loopw [10, 4] (fun o vl wr => ∃ i : Nat, i ≤ l.length ∧ o = .int .i64 i ∧ Hid (OwnK wr W0.heap.size vl (selK now (l.take i))) ∧ Hid (Below W0.heap.size W0 wr)) (fun o _ _ => l.length - (intOf o).toNat)
  case atStart => exact ⟨0, Nat.zero_le _, rfl, Lib.hid (by rw [HNIL.out]; exact OwnK.nil _ _), Lib.hid (by rw [← HW.out]; exact Below.refl _ _)⟩
  case round =>
    obtain ⟨i, hi, rfl, how, hb⟩ := hrel
    obtain ⟨t0, t1⟩ := HBX.out wr hb.out
    have hbs := hb.out.size
    have z0 : w.heap.size < wr.heap.size := by omega
    have z0' : w.heap.size ≠ wr.heap.size := by omega
    by_cases hlt : i < l.length
    · obtain ⟨bb, off, rfl, hbl, hrow⟩ := ((HV.out.on hb.out).cells) (by omega)
      obtain ⟨d0, d1, d2, d3, d4, d5, d6, d7, d8⟩ := hrow i hlt
      have i1 : (i : Int) < l.length := by omega
      have HK := Lib.hid hlt
      have HST := Lib.hid (HS.out i hlt)
      have hlv := live_c (keyAt l i) now (wr.alloc (.cells (kc (keyAt l i)) 48))
      generalize keyAt l i = y at d0 d1 d2 d3 d4 d5 d6 d7 d8 hlv HST
      have HX2 : Hid (∀ w1, Below (wr.alloc (.cells (kc y) 48)).heap.size (wr.alloc (.cells (kc y) 48)) w1 →
          w1.heap[wr.heap.size]? = some (.cells (kc y) 48 (0, 0)) ∧ Below W0.heap.size W0 w1 ∧ OwnK w1 W0.heap.size u4 (selK now (l.take i)) ∧ wr.heap.size < w1.heap.size) := Lib.hid (by
        intro w1 h
        refine ⟨(row_keep (heap_alloc_new _ _) h), hb.out.trans ((below1 _ _ h).mono hbs), how.out.keep (below1 _ _ h) (Nat.le_refl _), ?_⟩
        have := h.size
        rw [World.size_alloc] at this
        omega)
      unfold kc at hlv
      unfold kv kc at hlv
      unfold kc at HX2
      clear hrow hlt how
      cases hq : liveK now y with
      | true =>
        rw [hq] at hlv HST
        have HLV := Lib.hid hlv
        have HLEN := Lib.hid (HSL.out i)
        clear hlv hq
        go_wp2_with (first
          | (go_at_call 39; refine HLV.out.mono ?_; rintro e w1 ⟨rfl, hb'⟩; obtain ⟨hrw, hbb, hoo, hsw⟩ := HX2.out _ hb'; have e0 : w1.cell? ⟨wr.heap.size, 0, none⟩ = some (.int .i64 y.id) := cell_of_row _ _ _ _ _ _ hrw; have e1 : w1.cell? ⟨wr.heap.size, 1, none⟩ = some (.int .i64 y.ty) := cell_of_row _ _ _ _ _ _ hrw; have e2 : w1.cell? ⟨wr.heap.size, 2, none⟩ = some (.string ⟨y.val.toArray⟩) := cell_of_row _ _ _ _ _ _ hrw; have e3 : w1.cell? ⟨wr.heap.size, 3, none⟩ = some (.int .i64 y.uses) := cell_of_row _ _ _ _ _ _ hrw; have e4 : w1.cell? ⟨wr.heap.size, 4, none⟩ = some (.int .i64 y.start) := cell_of_row _ _ _ _ _ _ hrw; have e5 : w1.cell? ⟨wr.heap.size, 5, none⟩ = some (.int .i64 y.fin) := cell_of_row _ _ _ _ _ _ hrw; have e6 : w1.cell? ⟨wr.heap.size, 6, none⟩ = some (.int .i64 y.ver) := cell_of_row _ _ _ _ _ _ hrw; have e7 : w1.cell? ⟨wr.heap.size, 7, none⟩ = some (.int .i64 y.par) := cell_of_row _ _ _ _ _ _ hrw; have e8 : w1.cell? ⟨wr.heap.size, 8, none⟩ = some (.bool y.raw) := cell_of_row _ _ _ _ _ _ hrw; have HBB := Lib.hid hbb; have HOO := Lib.hid hoo; clear hbb hoo hb' hrw)
          | (at_builtin; refine app_k rfl (.tmp 17) (.tmp 19) rfl W0.heap.size _ (selK now (l.take i)) rfl (HOO.out.keep ((Below.refl _ _).alloc (Nat.le_refl _) _) (Nat.le_refl _)) _ [y] rfl (one_k w1 y) (by have := HLEN.out; have := HL.out; simp only [List.length_cons, List.length_nil]; omega) (by rw [World.size_alloc]; have := HBB.out.size; omega) ?_; intro v' w' ho hbk))
        go_roundw
        case rel => exact ⟨i + 1, HK.out, by go_num, Lib.hid (by rw [HST.out, if_pos (by trivial)]; exact ho), Lib.hid ((HBB.out.alloc HBB.out.size _).trans hbk)⟩
        case measure => have := HK.out; simp [intOf]; omega
      | false =>
        rw [hq] at hlv HST
        have HLV := Lib.hid hlv
        clear hlv hq
        go_wp2_with (go_at_call 39; refine HLV.out.mono ?_; rintro e w1 ⟨rfl, hb'⟩; obtain ⟨hrw, hbb, hoo, hsw⟩ := HX2.out _ hb'; have HBB := Lib.hid hbb; have HOO := Lib.hid hoo; clear hbb hoo hb' hrw)
        go_roundw
        case rel => exact ⟨i + 1, HK.out, by go_num, Lib.hid (by rw [HST.out, if_neg (by simp)]; exact HOO.out), HBB⟩
        case measure => have := HK.out; simp [intOf]; omega
    · have i1 : (l.length : Int) ≤ i := by omega
      have HF : Hid (RdK wr u4 (selK now l)) := Lib.hid (by rw [← HALL.out i hlt]; exact how.out.rd)
      clear how hlt hi
      go_wp2
      go_ret
      exact ⟨_, rfl, HF.out, HBE.out _ hb.out⟩
set_option maxRecDepth 100000 in
set_option maxHeartbeats 4000000 in
theorem complete_c (nx now : Int) (v u : Value) (tl bl : List K) (b : BK) (w : World) (hv : RdK w v tl) (hu : RdK w u bl) (hl : tl.length ≤ 5000) :
    Calls Tryd.prog 13 #[.agg (bc b u), .agg #[.int .i64 nx, v], .int .i64 now] w fun e w' => e = .returned (.bool (compB bl tl now)) ∧ Below w.heap.size w w' := by
  have hmf : ∀ (fn : Fn) (first cap : Array Value) (w : World), (Instr.makeFunc fn first cap).run Tryd.prog w = .ok (.func fn first cap) w := fun _ _ _ _ => rfl
  obtain ⟨W0, hW0⟩ : ∃ W0, W0 = (w.alloc (.cells (bc b u) 26)).alloc (.cells #[.int .i64 nx, v] 37) := ⟨_, rfl⟩
  have HSEL : Hid (Calls Tryd.prog 12 #[.agg #[.int .i64 nx, v], .int .i64 now] W0 fun e w' => ∃ v', e = .returned v' ∧ RdK w' v' (selK now tl) ∧ Below W0.heap.size W0 w') :=
    Lib.hid (select_c nx now v tl W0 (by rw [hW0]; exact (hv.alloc _).alloc _) hl)
  have HBE : Hid (∀ w1, Below W0.heap.size W0 w1 → w1.heap[w.heap.size]? = some (.cells (bc b u) 26 (0, 0)) ∧ RdK w1 u bl ∧ Below w.heap.size w w1) := Lib.hid (by
    intro w1 h
    rw [hW0] at h
    have h2 := below2 _ _ _ h
    refine ⟨?_, hu.on h2, h2⟩
    rw [h.block _ (by simp; omega)]
    exact two_0 _ _ _)
  have HC : Hid (∀ w1 v', RdK w1 v' (selK now tl) → w1.heap[w.heap.size]? = some (.cells (bc b u) 26 (0, 0)) → RdK w1 u bl →
      Calls Tryd.prog 40 #[v', .func (.func 41) #[] #[.pointer (some ⟨w.heap.size, 0, none⟩)]] w1 fun e w' => e = .returned (.bool ((selK now tl).any (fun x => !decide (x ∈ bl)))) ∧ Below w1.heap.size w1 w') :=
    Lib.hid (fun w1 v' h1 h2 h3 => containsFunc_k v' (selK now tl) 41 _ _ w1 egComp h1 (comp_pred b u bl w.heap.size w1 h3 h2))
  have hd : compB bl tl now = !((selK now tl).any (fun x => !decide (x ∈ bl))) := rfl
  rw [hd]
  generalize (selK now tl).any (fun x => !decide (x ∈ bl)) = r at HC ⊢
  have HW := Lib.hid hW0
  have hvv := hv
  obtain ⟨a, cap, rfl, _, _, _⟩ := hvv
  have t0 : W0.cell? ⟨w.heap.size + 1, 0, none⟩ = some (.int .i64 nx) := by rw [hW0]; exact cell_of_row _ _ _ _ _ _ (two_1 _ _ _)
  have t1 : W0.cell? ⟨w.heap.size + 1, 1, none⟩ = some (.slice a tl.length cap) := by rw [hW0]; exact cell_of_row _ _ _ _ _ _ (two_1 _ _ _)
  clear hd hW0 hv hu
  go_enter Tryd.func13, Tryd.ntmps13
  go_upto_region 1 with fail
  rw [← HW.out]
  go_wp2_with (first
    | (go_at_call 12; refine HSEL.out.mono ?_; rintro e w1 ⟨v', rfl, hk, hb⟩; obtain ⟨g1, g2, g3⟩ := HBE.out _ hb; have HG3 := Lib.hid g3; have HCC := Lib.hid (HC.out _ _ hk g1 g2); clear g1 g2 g3 hk hb)
    | (go_at_call 40; refine HCC.out.mono ?_; rintro e w2 ⟨rfl, hb⟩))
  go_ret
  exact ⟨rfl, HG3.out.trans (hb.mono HG3.out.size)⟩
end Go.Proofs.YtbpjdfnnlmblaaaDoor
/- The program's Same. -/
namespace Go.Proofs.YtbpjdfnnlmblaaaDoor
open Go.RowKit Go.Shelf
set_option linter.unusedSimpArgs false
set_option linter.unusedVariables false
/-- equal headers, equal keys -/
def sameP (a : BK) (l : List K) (b : BK) (m : List K) : Bool := (headP a == headP b) && decide (l = m)
attribute [local irreducible] Calls headP putAll
set_option maxRecDepth 100000 in
set_option maxHeartbeats 4000000 in
theorem same_c (a b : BK) (v u : Value) (l m : List K) (w : World) (hv : RdK w v l) (hu : RdK w u m) (ha : a.wf) (hb : b.wf) :
    Calls Tryd.prog 25 #[.agg (bc a v), .agg (bc b u)] w fun e w' => e = .returned (.bool (sameP a l b m)) ∧ Below w.heap.size w w' := by
  obtain ⟨W0, hW0⟩ : ∃ W0, W0 = (w.alloc (.cells (bc a v) 26)).alloc (.cells (bc b u) 26) := ⟨_, rfl⟩
  have HW := Lib.hid hW0
  have HBX : Hid (∀ w1, Below W0.heap.size W0 w1 → w1.heap[w.heap.size]? = some (.cells (bc a v) 26 (0, 0)) ∧ w1.heap[w.heap.size + 1]? = some (.cells (bc b u) 26 (0, 0)) ∧ RdK w1 v l ∧ RdK w1 u m ∧ Below w.heap.size w w1) := Lib.hid (by
    intro w1 h
    rw [hW0] at h
    have h2 := below2 _ _ _ h
    exact ⟨by rw [h.block _ (by simp; omega)]; exact two_0 _ _ _, by rw [h.block _ (by simp)]; exact two_1 _ _ _, hv.on h2, hu.on h2, h2⟩)
  have HA := Lib.hid ha
  have HB := Lib.hid hb
  obtain ⟨va, vc, rfl, _, _, _⟩ := hv
  obtain ⟨ua, uc, rfl, _, _, _⟩ := hu
  have hd : sameP a l b m = ((headP a == headP b) && decide (l = m)) := rfl
  have HEQ := Lib.hid (str_beq (headP a) (headP b))
  have HCA := Lib.hid (fun (u : Value) (w : World) => header_c a u w ha)
  have HCB := Lib.hid (fun (u : Value) (w : World) => header_c b u w hb)
  have HCE := Lib.hid (fun (v u : Value) (w : World) (h1 : RdK w v l) (h2 : RdK w u m) => equal_k v u l m w h1 h2)
  rw [hd]
  generalize hpa : headP a = pa at HEQ HCA ⊢
  generalize hpb : headP b = pb at HEQ HCB ⊢
  generalize hlm : decide (l = m) = lm at HCE ⊢
  clear hd hW0 hpa hpb ha hb hlm
  cases hr : (pa == pb) with
  | true =>
    rw [hr] at HEQ
    go_enter Tryd.func25, Tryd.ntmps25
    go_upto_region 1 with fail
    rw [← HW.out]
    refine region_rel 12 [[], [0], [], [2], [1, 3], [4], [5], [5, 6], [5], [5, 8], [5, 7, 9], [5, 10]]
      (SP.of [.eq (.agg (bc a (.slice va l.length vc))), .eq (.string ⟨pa.toArray⟩), .eq (.agg (bc b (.slice ua m.length uc))), .eq (.string ⟨pb.toArray⟩), .eq (.bool true), .eq (.bool true), .eq (.pointer (some ⟨w.heap.size, 37, none⟩)), .eq (.slice va l.length vc), .eq (.pointer (some ⟨w.heap.size + 1, 37, none⟩)), .eq (.slice ua m.length uc), .eq (.bool lm), .eq (.bool lm)]) (fun _ => undef) ?q1 ?q2 ?q3 ?q4 ?q5 ?q6
    case q1 => kernel_rfl
    case q2 => kernel_rfl
    case q3 => kernel_rfl
    case q4 =>
      simp only [List.take_succ_cons, List.take_zero]
      repeat (first | exact trivial | refine ⟨fun vals v => by kernel_rfl, ?_⟩)
    case q5 =>
      simp only [List.take_succ_cons, List.take_zero]
      refine ⟨?_, ?_, ?_, ?_, ?_, ?_, ?_, ?_, ?_, ?_, ?_, ?_, trivial⟩
      all_goals (intro wq hbq vals; simp only [Nat.reduceAdd, Nat.zero_add, List.getD_cons_succ, List.getD_cons_zero]; repeat (first | refine given_nil ?_ | refine given_eq rfl ?_); obtain ⟨r1, r2, r3, r4, r5⟩ := HBX.out _ hbq; have R1 := Lib.hid r1; have R2 := Lib.hid r2; have R3 := Lib.hid r3; have R4 := Lib.hid r4; clear r1 r2 r3 r4 r5 hbq; intro Q hQ; simp only [putAll, upd, Act.put, List.setIfInBounds_toArray, List.set_cons_zero, List.set_cons_succ, Nat.reduceAdd, Nat.zero_add, Nat.reduceEqDiff, if_true, if_false, reduceIte])
      case refine_1 =>
        go_wp2_with (refine ld_bk a _ rfl (.tmp 2) rfl _ rfl _ R1.out ?_)
        exact relEnd_fin hQ _ (by kernel_rfl) (Below.refl _ _) rfl
      case refine_2 =>
        go_wp2_with (go_at_call 26; refine (HCA.out _ _).mono ?_; rintro e x1 ⟨rfl, hx1⟩)
        exact relEnd_fin hQ _ (by kernel_rfl) hx1 rfl
      case refine_3 =>
        go_wp2_with (refine ld_bk b _ rfl (.tmp 3) rfl _ rfl _ R2.out ?_)
        exact relEnd_fin hQ _ (by kernel_rfl) (Below.refl _ _) rfl
      case refine_4 =>
        go_wp2_with (go_at_call 26; refine (HCB.out _ _).mono ?_; rintro e x1 ⟨rfl, hx1⟩)
        exact relEnd_fin hQ _ (by kernel_rfl) hx1 rfl
      case refine_5 =>
        have heq := HEQ.out
        go_wp2
        exact relEnd_fin hQ _ (by kernel_rfl) (Below.refl _ _) rfl
      case refine_8 =>
        have c : wq.cell? ⟨w.heap.size, 37, none⟩ = some (.slice va l.length vc) := by rw [cell_of_row _ _ _ _ _ _ R1.out]; exact bc_37 _ _
        go_wp2
        exact relEnd_fin hQ _ (by kernel_rfl) (Below.refl _ _) rfl
      case refine_10 =>
        have c : wq.cell? ⟨w.heap.size + 1, 37, none⟩ = some (.slice ua m.length uc) := by rw [cell_of_row _ _ _ _ _ _ R2.out]; exact bc_37 _ _
        go_wp2
        exact relEnd_fin hQ _ (by kernel_rfl) (Below.refl _ _) rfl
      case refine_11 =>
        go_wp2_with (go_at_call 54; refine (HCE.out _ _ _ R3.out R4.out).mono ?_; rintro e x1 ⟨rfl, hx1⟩)
        exact relEnd_fin hQ _ (by kernel_rfl) hx1 rfl
      all_goals go_wp2
      all_goals exact relEnd_fin hQ _ (by kernel_rfl) (Below.refl _ _) rfl
    case q6 =>
      intro w4 hb4 vals
      rw [show List.range 12 = [0, 1, 2, 3, 4, 5, 6, 7, 8, 9, 10, 11] from by decide]
      repeat (first | refine given_nil ?_ | refine given_eq rfl ?_)
      simp only [List.take_succ_cons, List.take_zero, List.drop_succ_cons, List.drop_zero]
      simp only [putAll, upd, Act.put, List.setIfInBounds_toArray, List.set_cons_zero, List.set_cons_succ, Nat.reduceAdd, Nat.zero_add, Nat.reduceEqDiff, if_true, if_false, reduceIte]
      have HX4 := Lib.hid (HBX.out _ hb4).2.2.2.2
      clear hb4
      go_wp2
      go_ret
      exact ⟨by simp, HX4.out⟩
  | false =>
    rw [hr] at HEQ
    go_enter Tryd.func25, Tryd.ntmps25
    go_upto_region 1 with fail
    rw [← HW.out]
    refine region_rel 12 [[], [0], [], [2], [1, 3], [4], [5], [5], [5], [5], [5], [5]]
      (SP.of [.eq (.agg (bc a (.slice va l.length vc))), .eq (.string ⟨pa.toArray⟩), .eq (.agg (bc b (.slice ua m.length uc))), .eq (.string ⟨pb.toArray⟩), .eq (.bool false), .eq (.bool false), .any, .any, .any, .any, .any, .eq (.bool false)]) (fun _ => undef) ?q1 ?q2 ?q3 ?q4 ?q5 ?q6
    case q1 => kernel_rfl
    case q2 => kernel_rfl
    case q3 => kernel_rfl
    case q4 =>
      simp only [List.take_succ_cons, List.take_zero]
      repeat (first | exact trivial | refine ⟨fun vals v => by kernel_rfl, ?_⟩)
    case q5 =>
      simp only [List.take_succ_cons, List.take_zero]
      refine ⟨?_, ?_, ?_, ?_, ?_, ?_, ?_, ?_, ?_, ?_, ?_, ?_, trivial⟩
      all_goals (intro wq hbq vals; simp only [Nat.reduceAdd, Nat.zero_add, List.getD_cons_succ, List.getD_cons_zero]; repeat (first | refine given_nil ?_ | refine given_eq rfl ?_); obtain ⟨r1, r2, r3, r4, r5⟩ := HBX.out _ hbq; have R1 := Lib.hid r1; have R2 := Lib.hid r2; clear r1 r2 r3 r4 r5 hbq; intro Q hQ; simp only [putAll, upd, Act.put, List.setIfInBounds_toArray, List.set_cons_zero, List.set_cons_succ, Nat.reduceAdd, Nat.zero_add, Nat.reduceEqDiff, if_true, if_false, reduceIte])
      case refine_1 =>
        go_wp2_with (refine ld_bk a _ rfl (.tmp 2) rfl _ rfl _ R1.out ?_)
        exact relEnd_fin hQ _ (by kernel_rfl) (Below.refl _ _) rfl
      case refine_2 =>
        go_wp2_with (go_at_call 26; refine (HCA.out _ _).mono ?_; rintro e x1 ⟨rfl, hx1⟩)
        exact relEnd_fin hQ _ (by kernel_rfl) hx1 rfl
      case refine_3 =>
        go_wp2_with (refine ld_bk b _ rfl (.tmp 3) rfl _ rfl _ R2.out ?_)
        exact relEnd_fin hQ _ (by kernel_rfl) (Below.refl _ _) rfl
      case refine_4 =>
        go_wp2_with (go_at_call 26; refine (HCB.out _ _).mono ?_; rintro e x1 ⟨rfl, hx1⟩)
        exact relEnd_fin hQ _ (by kernel_rfl) hx1 rfl
      case refine_5 =>
        have heq := HEQ.out
        go_wp2
        exact relEnd_fin hQ _ (by kernel_rfl) (Below.refl _ _) rfl
      case refine_6 =>
        go_wp2
        exact relEnd_fin hQ _ (by kernel_rfl) (Below.refl _ _) rfl
      case refine_12 =>
        go_wp2
        exact relEnd_fin hQ _ (by kernel_rfl) (Below.refl _ _) rfl
      all_goals go_wp2
      case refine_7 => exact relEnd_fin hQ undef (by kernel_rfl) (Below.refl _ _) trivial
      case refine_8 => exact relEnd_fin hQ undef (by kernel_rfl) (Below.refl _ _) trivial
      case refine_9 => exact relEnd_fin hQ undef (by kernel_rfl) (Below.refl _ _) trivial
      case refine_10 => exact relEnd_fin hQ undef (by kernel_rfl) (Below.refl _ _) trivial
      case refine_11 => exact relEnd_fin hQ undef (by kernel_rfl) (Below.refl _ _) trivial
    case q6 =>
      intro w4 hb4 vals
      rw [show List.range 12 = [0, 1, 2, 3, 4, 5, 6, 7, 8, 9, 10, 11] from by decide]
      repeat (first | refine given_nil ?_ | refine given_eq rfl ?_ | (refine given_pred rfl ?_; intro _ _))
      simp only [List.take_succ_cons, List.take_zero, List.drop_succ_cons, List.drop_zero]
      simp only [putAll, upd, Act.put, List.setIfInBounds_toArray, List.set_cons_zero, List.set_cons_succ, Nat.reduceAdd, Nat.zero_add, Nat.reduceEqDiff, if_true, if_false, reduceIte]
      have HX4 := Lib.hid (HBX.out _ hb4).2.2.2.2
      clear hb4
      go_wp2
      go_ret
      exact ⟨by simp, HX4.out⟩
end Go.Proofs.YtbpjdfnnlmblaaaDoor
/- Peek. -/
namespace Go.Proofs.YtbpjdfnnlmblaaaDoor
open Go.RowKit Go.Shelf
set_option linter.unusedSimpArgs false
set_option linter.unusedVariables false
/-- what Peek answers -/
def pkB (blob : List UInt8) : BK := if blE blob = 0 then blB blob else zB
attribute [local irreducible] Calls rc drow validB
set_option maxRecDepth 100000 in
set_option maxHeartbeats 4000000 in
theorem peekf_c (blob : List UInt8) (w : World) (hl : blob.length ≤ 800000) :
    Calls Tryd.prog 23 #[.string ⟨blob.toArray⟩] w fun en w' => en = .returned (.tuple #[.agg (bc (pkB blob) nilS), .int .i64 (blE blob)]) ∧ Below w.heap.size w w' := by
  have hz := zero_bk
  have HL := Lib.hid hl
  obtain ⟨W0, hW0⟩ : ∃ W0, W0 = w.alloc (.cells (bc zB (.slice none 0 0)) 26) := ⟨_, rfl⟩
  have HW := Lib.hid hW0
  have HB0 : Hid (Below w.heap.size w W0) := Lib.hid (by rw [hW0]; exact (Below.refl _ _).alloc (Nat.le_refl _) _)
  have HK0 : Hid (W0.heap[w.heap.size]? = some (.cells (bc zB nilS) 26 (0, 0))) := Lib.hid (by rw [hW0]; exact heap_last _ _ _ rfl)
  have hcv := conv_sb W0 blob
  have HSB := Lib.hid (sb_below W0 blob)
  have HSR := Lib.hid (sb_rd W0 blob (by unfold maxLen; omega))
  generalize Lib.bytesWorld W0 5 ⟨blob.toArray⟩ = ws at hcv HSB HSR
  clear hl hW0
  go_enter Tryd.func23, Tryd.ntmps23
  go_upto_region 1 with fail
  rw [← HW.out]
  go_upto_region 2 with fail
  have HX1 : Hid (RV (ws.alloc (.cells #[.slice (some ⟨W0.heap.size, 0, none⟩) blob.length (grownCap W0 blob.length 0 5), .int .i64 0, .string ⟨#[]⟩] 68)) ws.heap.size 68 (some []) (.slice (some ⟨W0.heap.size, 0, none⟩) blob.length (grownCap W0 blob.length 0 5)) 0) := Lib.hid (by unfold RV; rw [rc_some]; exact heap_last _ _ _ rfl)
  have HA1 := Lib.hid ((Below.refl ws.heap.size ws).alloc (Nat.le_refl _) (.cells #[.slice (some ⟨W0.heap.size, 0, none⟩) blob.length (grownCap W0 blob.length 0 5), .int .i64 0, .string ⟨#[]⟩] 68))
  have HGX : Hid (w.heap.size < ws.heap.size) := Lib.hid (Nat.lt_of_lt_of_le (Array.getElem?_eq_some_iff.1 HK0.out).1 HSB.out.size)
  generalize ws.alloc (.cells #[.slice (some ⟨W0.heap.size, 0, none⟩) blob.length (grownCap W0 blob.length 0 5), .int .i64 0, .string ⟨#[]⟩] 68) = w1 at HX1 HA1 ⊢
  generalize hvb : (Value.slice (some ⟨W0.heap.size, 0, none⟩) blob.length (grownCap W0 blob.length 0 5)) = vb at HX1 HSR
  have HB1 : Hid (Below W0.heap.size W0 w1) := Lib.hid (HSB.out.trans (HA1.out.mono HSB.out.size))
  have HK1 : Hid (w1.heap[w.heap.size]? = some (.cells (bc zB nilS) 26 (0, 0))) := Lib.hid (by rw [HB1.out.block _ (Array.getElem?_eq_some_iff.1 HK0.out).1]; exact HK0.out)
  have HRB := Lib.hid (HSR.out.on HA1.out)
  generalize hgx : ws.heap.size = g at HX1 HGX
  clear hcv hgx hvb
  have HG1 := Lib.hid HX1.out.lt
  have C4 := Lib.hid (peek_c g [] blob vb w1 HX1.out HRB.out (by have := HL.out; omega))
  have EPB : Hid (pkB blob = if blE blob = 0 then blB blob else zB) := Lib.hid rfl
  have hbB : hdB (rdV [] decS blob 0) (rdX decS blob 0) = blB blob := rfl
  have hbE : hdX (rdV [] decS blob 0) (rdX decS blob 0) = blE blob := rfl
  rw [hbB, hbE] at C4
  clear hbB hbE
  generalize hbb : blB blob = b at C4 EPB
  generalize hee : blE blob = ee at C4 EPB
  have HEE := Lib.hid hee
  generalize rdV [] decS blob 0 = hdr at C4
  generalize rdR decS blob 0 = rr at C4
  clear hbb hee
  go_upto_if 18 with (first
    | (go_at_call 31; refine C4.out.mono ?_; rintro en w2 ⟨v2, rfl, hr2, hp2, hg2⟩; have HX2 := Lib.hid hr2; have HG12 := Lib.hid hg2; clear hr2 hp2 hg2)
    | (refine st_new (bc b nilS) 26 rfl (.tmp 5) (.tmp 12) rfl _ rfl rfl rfl (by rw [bc_size]; exact info_b) (by rw [bc_size, bc_size]) (bcone _ _ _ _) ?_; have c29 : (w2.alloc (.cells (bc b nilS) 26)).cell? ⟨g, 1, none⟩ = some (.int .i64 ee) := (by rw [cell_of_row _ _ _ _ _ _ (HX2.out.on ((Below.refl _ _).alloc (Nat.le_refl _) _))]; exact rc_1 _ ee (some hdr))))
  have HA2 := Lib.hid ((Below.refl w2.heap.size w2).alloc (Nat.le_refl _) (.cells (bc b nilS) 26))
  have HX3 := Lib.hid (HX2.out.on HA2.out)
  have HBK3 : Hid ((w2.alloc (.cells (bc b nilS) 26)).heap[w2.heap.size]? = some (.cells (bc b nilS) 26 (0, 0))) := Lib.hid (heap_last _ _ _ rfl)
  have HK2 := Lib.hid (row_by HK1.out HG12.out (by have := HGX.out; omega))
  have HK3 : Hid ((w2.alloc (.cells (bc b nilS) 26)).heap[w.heap.size]? = some (.cells (bc zB nilS) 26 (0, 0))) := Lib.hid (by rw [HA2.out.block _ (Array.getElem?_eq_some_iff.1 HK2.out).1]; exact HK2.out)
  have HBW : Hid (Below w.heap.size w (w2.alloc (.cells (bc b nilS) 26))) := Lib.hid (by
    have q1 := HB0.out.trans (HB1.out.mono HB0.out.size)
    have q2 := q1.trans (below_grown HG12.out (Nat.le_of_lt HGX.out) HG1.out)
    exact q2.trans (HA2.out.mono q2.size))
  generalize w2.alloc (.cells (bc b nilS) 26) = w3 at HX3 HBK3 HK3 HBW c29 ⊢
  generalize hgb : w2.heap.size = gb at HBK3
  clear hgb c29 HA2 HK2
  have HGW : Hid (w.heap.size < g) := HGX
  by_cases he : ee = 0
  · subst he
    have EO2 : Hid (pkB blob = b) := Lib.hid (by rw [EPB.out, if_pos rfl])
    have k3 := run_stcells w3 w.heap.size b zB (.slice none 0 0) none 0 0 HK3.out
    go_wp2_with (refine ld_bk b (.slice none 0 0) rfl (.tmp 5) rfl gb rfl _ HBK3.out ?_)
    refine bodyPost_ret (results_row2 rfl _ _ w.heap.size _ rfl (run_bkrow _ _ b nilS _ (setRow_heap _ _ _ _ _ _ HK3.out))) rfl ?_
    exact ⟨by rw [EO2.out, HEE.out]; rfl, HBW.out.trans (below_row (Nat.le_refl _))⟩
  · have i2 : (ee != 0) = true := by simpa using he
    have EO2 : Hid (pkB blob = zB) := Lib.hid (by rw [EPB.out, if_neg he])
    clear he
    go_wp2
    have k1 : w3.drew.cell? ⟨g, 1, none⟩ = some (.int .i64 ee) := by rw [cell_of_row _ _ _ _ _ _ (show w3.drew.heap[g]? = _ from HX3.out)]; exact rc_1 _ ee _
    have k2 : (w3.drew.setRow w.heap.size (bc zB (.slice none 0 0))).cell? ⟨g, 1, none⟩ = some (.int .i64 ee) := by rw [cell_of_row _ _ _ _ _ _ (show (w3.drew.setRow w.heap.size (bc zB (.slice none 0 0))).heap[g]? = _ from (setRow_else _ _ _ _ (by have := HGW.out; omega)).trans HX3.out)]; exact rc_1 _ ee _
    have k3 := run_stcells w3.drew w.heap.size zB zB (.slice none 0 0) none 0 0 HK3.out
    go_region
    all_goals go_wp2
    all_goals (refine bodyPost_ret (results_row2 rfl _ _ w.heap.size _ rfl (run_bkrow _ _ zB nilS _ (setRow_heap _ _ _ _ _ _ HK3.out))) rfl ?_)
    all_goals (exact ⟨by rw [EO2.out, HEE.out]; rfl, HBW.out.drew.trans (below_row (Nat.le_refl _))⟩)
end Go.Proofs.YtbpjdfnnlmblaaaDoor
/- What holds after a plan. -/
namespace Go.Proofs.YtbpjdfnnlmblaaaDoor
open Go.RowKit
set_option linter.unusedSimpArgs false
set_option linter.unusedVariables false
theorem plRun_err {now : Int} (l : List K) : ∀ (s : PS) (c : Int), plRun now s l = .error c → c ≠ 0 := by
  induction l with
  | nil => intro s c h; cases h
  | cons x l ih =>
    intro s c h
    rw [plRun] at h
    cases h1 : plStep now s x with
    | ok s1 => rw [h1] at h; exact ih s1 c h
    | error e =>
      rw [h1] at h
      cases h
      rcases plStep_parts now s x with ⟨_, e⟩ | ⟨_, ht, e⟩ | ⟨_, _, hne, e⟩ | ⟨_, ht, he, e⟩
      · rw [e] at h1; cases h1
      · rw [e] at h1; cases h1
      · rw [e] at h1; cases h1; exact hne
      · rw [e] at h1; cases h1
theorem planK_err {nx : Int} {tl : List K} {b : BK} {bl : List K} {now c : Int} (h : planK nx tl b bl now = .error c) : c ≠ 0 := by
  rcases planK_four nx tl b bl now with ⟨_, hr⟩ | ⟨_, _, hr⟩ | ⟨_, _, _, hr⟩ | ⟨_, _, _, hr⟩
  · rw [hr] at h; cases h; decide
  · rw [hr] at h; cases h; decide
  · rw [hr] at h; cases h; decide
  · rw [hr] at h; exact plRun_err _ _ _ h
theorem planK_ok {nx : Int} {tl : List K} {b : BK} {bl : List K} {now : Int} {s : PS} (h : planK nx tl b bl now = .ok s) : validB b bl = true ∧ 0 ≤ now ∧ now ≤ 1099511627776 ∧ plRun now ⟨nx, tl, [], []⟩ bl = .ok s := by
  rcases planK_four nx tl b bl now with ⟨_, hr⟩ | ⟨_, _, hr⟩ | ⟨_, _, _, hr⟩ | ⟨h1, h2, h3, hr⟩
  · rw [hr] at h; cases h
  · rw [hr] at h; cases h
  · rw [hr] at h; cases h
  · rw [hr] at h; exact ⟨h1, by omega, by omega, h⟩
theorem planK_good {nx : Int} {tl : List K} {b : BK} {bl : List K} {now : Int} {s : PS} (ht : validTab nx tl = true) (h : planK nx tl b bl now = .ok s) : Good nx tl bl now s :=
  (Good.start nx tl bl now ht).run bl (fun x hx => hx) (planK_ok h).2.2.2
theorem planK_len {nx : Int} {tl : List K} {b : BK} {bl : List K} {now : Int} {s : PS} (h : planK nx tl b bl now = .ok s) : s.ks.length ≤ tl.length + bl.length := (plRun_len _ _ _ (planK_ok h).2.2.2).2.2
theorem planK_holds {nx : Int} {tl : List K} {b : BK} {bl : List K} {now : Int} {s : PS} (h : planK nx tl b bl now = .ok s) (later : Int) (hl : now ≤ later) : holdsK s.ks bl later = true := by
  rw [holdsK_iff]
  intro x hx hf
  exact plRun_twin bl _ _ (planK_ok h).2.2.2 x hx (by omega)
theorem planK_again {nx : Int} {tl : List K} {b : BK} {bl : List K} {now : Int} {s : PS} (h : planK nx tl b bl now = .ok s) (later : Int) (hl : now ≤ later) (hm : later ≤ 1099511627776) :
    ∃ s', planK s.nx s.ks b bl later = .ok s' ∧ s'.nx = s.nx ∧ s'.ks = s.ks ∧ s'.ids = [] := by
  obtain ⟨h1, h2, h3, h4⟩ := planK_ok h
  obtain ⟨s', e1, e2, e3, e4⟩ := plRun_again (now := later) bl ⟨s.nx, s.ks, [], []⟩ (fun x hx hf => plRun_twin bl _ _ h4 x hx (by omega))
  exact ⟨s', by unfold planK; rw [if_pos ⟨h1, by omega, hm⟩]; exact e1, e2, e3, e4⟩
/-- Plan of the same backup, then or later, adds nothing -/
theorem plan_again {nx : Int} {tl : List K} {b : BK} {bl : List K} {now : Int} {s : PS} (ht : validTab nx tl = true) (h : planK nx tl b bl now = .ok s) (later : Int) (hl : now ≤ later) (hm : later ≤ 1099511627776) (h1 : tl.length ≤ 40) (h2 : bl.length ≤ 40)
    (hwf : ∀ i, i < bl.length → (keyAt bl i).wf) (hmo : b.mo.length ≤ maxLen) (v u : Value) (W : World) (hv : RdK W v s.ks) (hu : RdK W u bl) :
    Calls Tryd.prog 17 #[.agg #[.int .i64 s.nx, v], .agg (bc b u), .int .i64 later] W fun e w' => ∃ a c a2 c2, e = .returned (.tuple #[.agg #[.int .i64 s.nx, .slice a s.ks.length c], .slice a2 0 c2, .int .i64 0]) ∧ RdK w' (.slice a s.ks.length c) s.ks ∧ Below W.heap.size W w' := by
  have hlen := planK_len h
  have hc := plan_c s.nx later v u s.ks bl b W hv hu hwf hmo (by omega) h2 (planK_good ht h).tab
  obtain ⟨s', e1, e2, e3, e4⟩ := planK_again h later hl hm
  rw [e1] at hc
  refine hc.mono fun e w' hp => ?_
  obtain ⟨a, c, a2, c2, he, hk, hi, hb⟩ := planT_out hp
  have r1 : rn (.ok s') = s.nx := e2
  have r2 : rk (.ok s') = s.ks := e3
  have r3 : ri (.ok s') = [] := e4
  have r4 : re (.ok s') = 0 := rfl
  rw [r1, r2, r3, r4] at he
  rw [r2] at hk
  exact ⟨a, c, a2, c2, he, hk, hb⟩
theorem planT_ok_out {w w' : World} {s : PS} {e : Ending} (h : PlanT w (.ok s) e w') : ∃ a c a2 c2, e = .returned (.tuple #[.agg #[.int .i64 s.nx, .slice a s.ks.length c], .slice a2 s.ids.length c2, .int .i64 0]) ∧
    RdK w' (.slice a s.ks.length c) s.ks ∧ RdI w' (.slice a2 s.ids.length c2) s.ids ∧ Below w.heap.size w w' := planT_out h
theorem planT_no_out {w w' : World} {c : Int} {e : Ending} (h : PlanT w (.error c) e w') : e = .returned (.tuple #[.agg #[.int .i64 0, .slice none 0 0], .slice none 0 0, .int .i64 c]) ∧ Below w.heap.size w w' := ⟨h.2, h.1⟩
/-- keys that are read lie in no block of fewer than nine cells -/
theorem RdK.setSmall {w : World} {v : Value} {l : List K} {g i : Nat} {x : Value} {cs : Array Value} {T : TypeId} {fr : Nat × Nat} (h : RdK w v l) (hg : w.heap[g]? = some (.cells cs T fr)) (hs : cs.size < 9) : RdK (w.setCell ⟨g, i, none⟩ x) v l := by
  obtain ⟨a, cap, rfl, h1, h2, h3⟩ := h
  refine ⟨a, cap, rfl, h1, h2, fun h0 => ?_⟩
  obtain ⟨b, off, rfl, hlt, hc⟩ := h3 h0
  refine ⟨b, off, rfl, by rw [setCell_size]; exact hlt, fun j hj k hk => ?_⟩
  have hne : g ≠ b := by
    intro e
    subst e
    have h8 := hc 0 h0 8 (by omega)
    rw [cell_of_row _ _ _ _ _ _ hg] at h8
    rw [Array.getElem?_eq_none (by omega)] at h8
    cases h8
  rw [World.cell?_of_block (a := ⟨b, off + j * 9 + k, none⟩) (setCell_block hne)]
  exact hc j hj k hk
theorem tab_set {w : World} {g : Nat} {n n' : Int} {v v' : Value} (h : w.heap[g]? = some (.cells #[.int .i64 n, v] 37 (0, 0))) :
    ((w.setCell ⟨g, 0, none⟩ (.int .i64 n')).setCell ⟨g, 1, none⟩ v').heap[g]? = some (.cells #[.int .i64 n', v'] 37 (0, 0)) := by
  have h1 := setRow_heap w g _ (#[Value.int .i64 n, v].setIfInBounds 0 (.int .i64 n')) _ _ h
  rw [← setCell_rowK _ _ _ _ _ _ _ h] at h1
  have h2 := setRow_heap _ g _ ((#[Value.int .i64 n, v].setIfInBounds 0 (.int .i64 n')).setIfInBounds 1 v') _ _ h1
  rw [← setCell_rowK _ _ _ _ _ _ _ h1] at h2
  exact h2
theorem RdK.setTab {w : World} {v : Value} {l : List K} {g : Nat} {n n' : Int} {u u' : Value} (h : RdK w v l) (hg : w.heap[g]? = some (.cells #[.int .i64 n, u] 37 (0, 0))) : RdK ((w.setCell ⟨g, 0, none⟩ (.int .i64 n')).setCell ⟨g, 1, none⟩ u') v l := by
  have h1 := setRow_heap w g _ (#[Value.int .i64 n, u].setIfInBounds 0 (.int .i64 n')) _ _ hg
  rw [← setCell_rowK _ _ _ _ _ _ _ hg] at h1
  exact (h.setSmall hg (by show 2 < 9; decide)).setSmall h1 (by show 2 < 9; decide)
end Go.Proofs.YtbpjdfnnlmblaaaDoor
/- What RestoreNarrow leans on: equality of keys, what its inner loops find. -/
namespace Go.Proofs.YtbpjdfnnlmblaaaDoor
open Go.RowKit
set_option linter.unusedSimpArgs false
set_option linter.unusedVariables false
theorem eql_kr (a b : K) (w : World) : (binOp .eql 48 (.agg (kc a)) (.agg (kc b))).run Tryd.prog w = .ok (.bool (kEq a b)) w := by
  rw [run_eql_struct]
  have ht : Tryd.prog.underlying 48 = some (.struct (Tryd.prog.fieldsOf 48)) := by kernel_rfl
  have hp : Tryd.prog.stoodInHeld 48 = false := by kernel_rfl
  rw [show (10000 : Nat) = 9999 + 1 from rfl, run_equalIn_struct w 9999 _ _ _ ht hp]
  have hf := fields_k
  generalize (Tryd.prog.fieldsOf 48).toList = fs at hf
  rcases fs with _ | ⟨f0, _ | ⟨f1, _ | ⟨f2, _ | ⟨f3, _ | ⟨f4, _ | ⟨f5, _ | ⟨f6, _ | ⟨f7, _ | ⟨f8, _ | ⟨f9, fs⟩⟩⟩⟩⟩⟩⟩⟩⟩⟩
  case cons.cons.cons.cons.cons.cons.cons.cons.cons.nil =>
    simp only [List.map_cons, List.map_nil, List.cons.injEq, Prod.mk.injEq, and_true] at hf
    obtain ⟨⟨n0, t0, o0⟩, ⟨n1, t1, o1⟩, ⟨n2, t2, o2⟩, ⟨n3, t3, o3⟩, ⟨n4, t4, o4⟩, ⟨n5, t5, o5⟩, ⟨n6, t6, o6⟩, ⟨n7, t7, o7⟩, ⟨n8, t8, o8⟩⟩ := hf
    have m0 : f0.name ≠ "_" := by simpa using n0
    have m1 : f1.name ≠ "_" := by simpa using n1
    have m2 : f2.name ≠ "_" := by simpa using n2
    have m3 : f3.name ≠ "_" := by simpa using n3
    have m4 : f4.name ≠ "_" := by simpa using n4
    have m5 : f5.name ≠ "_" := by simpa using n5
    have m6 : f6.name ≠ "_" := by simpa using n6
    have m7 : f7.name ≠ "_" := by simpa using n7
    have m8 : f8.name ≠ "_" := by simpa using n8
    have e0 : (Op.equalIn 9999 3 (.int .i64 a.id) (.int .i64 b.id)).run Tryd.prog w = .ok (a.id == b.id) w := run_equalIn_int w 9998 _ _ _ _ _ Tryd.underlying3
    have e1 : (Op.equalIn 9999 3 (.int .i64 a.ty) (.int .i64 b.ty)).run Tryd.prog w = .ok (a.ty == b.ty) w := run_equalIn_int w 9998 _ _ _ _ _ Tryd.underlying3
    have e2 : (Op.equalIn 9999 9 (.string ⟨a.val.toArray⟩) (.string ⟨b.val.toArray⟩)).run Tryd.prog w = .ok (a.val == b.val) w := by rw [run_equalIn_string w 9998 _ _ _ Tryd.underlying9, str_beq]
    have e3 : (Op.equalIn 9999 3 (.int .i64 a.uses) (.int .i64 b.uses)).run Tryd.prog w = .ok (a.uses == b.uses) w := run_equalIn_int w 9998 _ _ _ _ _ Tryd.underlying3
    have e4 : (Op.equalIn 9999 3 (.int .i64 a.start) (.int .i64 b.start)).run Tryd.prog w = .ok (a.start == b.start) w := run_equalIn_int w 9998 _ _ _ _ _ Tryd.underlying3
    have e5 : (Op.equalIn 9999 3 (.int .i64 a.fin) (.int .i64 b.fin)).run Tryd.prog w = .ok (a.fin == b.fin) w := run_equalIn_int w 9998 _ _ _ _ _ Tryd.underlying3
    have e6 : (Op.equalIn 9999 3 (.int .i64 a.ver) (.int .i64 b.ver)).run Tryd.prog w = .ok (a.ver == b.ver) w := run_equalIn_int w 9998 _ _ _ _ _ Tryd.underlying3
    have e7 : (Op.equalIn 9999 3 (.int .i64 a.par) (.int .i64 b.par)).run Tryd.prog w = .ok (a.par == b.par) w := run_equalIn_int w 9998 _ _ _ _ _ Tryd.underlying3
    have e8 : (Op.equalIn 9999 4 (.bool a.raw) (.bool b.raw)).run Tryd.prog w = .ok (a.raw == b.raw) w := run_equalIn_bool w 9998 _ _ _ Tryd.underlying4
    rw [eqf_step 9999 _ _ f0 _ m0 w (.int .i64 a.id) (.int .i64 b.id) (a.id == b.id) (by rw [t0, o0]; simp [part, ag_i, kc]) (by rw [t0, o0]; simp [part, ag_i, kc]) (by rw [t0]; exact e0),
      eqf_step 9999 _ _ f1 _ m1 w (.int .i64 a.ty) (.int .i64 b.ty) (a.ty == b.ty) (by rw [t1, o1]; simp [part, ag_i, kc]) (by rw [t1, o1]; simp [part, ag_i, kc]) (by rw [t1]; exact e1),
      eqf_step 9999 _ _ f2 _ m2 w (.string ⟨a.val.toArray⟩) (.string ⟨b.val.toArray⟩) (a.val == b.val) (by rw [t2, o2]; simp [part, ag_s, kc]) (by rw [t2, o2]; simp [part, ag_s, kc]) (by rw [t2]; exact e2),
      eqf_step 9999 _ _ f3 _ m3 w (.int .i64 a.uses) (.int .i64 b.uses) (a.uses == b.uses) (by rw [t3, o3]; simp [part, ag_i, kc]) (by rw [t3, o3]; simp [part, ag_i, kc]) (by rw [t3]; exact e3),
      eqf_step 9999 _ _ f4 _ m4 w (.int .i64 a.start) (.int .i64 b.start) (a.start == b.start) (by rw [t4, o4]; simp [part, ag_i, kc]) (by rw [t4, o4]; simp [part, ag_i, kc]) (by rw [t4]; exact e4),
      eqf_step 9999 _ _ f5 _ m5 w (.int .i64 a.fin) (.int .i64 b.fin) (a.fin == b.fin) (by rw [t5, o5]; simp [part, ag_i, kc]) (by rw [t5, o5]; simp [part, ag_i, kc]) (by rw [t5]; exact e5),
      eqf_step 9999 _ _ f6 _ m6 w (.int .i64 a.ver) (.int .i64 b.ver) (a.ver == b.ver) (by rw [t6, o6]; simp [part, ag_i, kc]) (by rw [t6, o6]; simp [part, ag_i, kc]) (by rw [t6]; exact e6),
      eqf_step 9999 _ _ f7 _ m7 w (.int .i64 a.par) (.int .i64 b.par) (a.par == b.par) (by rw [t7, o7]; simp [part, ag_i, kc]) (by rw [t7, o7]; simp [part, ag_i, kc]) (by rw [t7]; exact e7),
      eqf_step 9999 _ _ f8 _ m8 w (.bool a.raw) (.bool b.raw) (a.raw == b.raw) (by rw [t8, o8]; simp [part, ag_b, kc]) (by rw [t8, o8]; simp [part, ag_b, kc]) (by rw [t8]; exact e8)]
    unfold kEq
    cases (a.id == b.id)
    · rfl
    cases (a.ty == b.ty)
    · rfl
    cases (a.val == b.val)
    · rfl
    cases (a.uses == b.uses)
    · rfl
    cases (a.start == b.start)
    · rfl
    cases (a.fin == b.fin)
    · rfl
    cases (a.ver == b.ver)
    · rfl
    cases (a.par == b.par)
    · rfl
    cases (a.raw == b.raw)
    · rfl
    rfl
  all_goals simp at hf
/-- a key of the backup is x but for Id and Parent, among the first m -/
def fnd (bl : List K) (x : K) (m : Nat) : Bool := (bl.take m).any fun y => kEq x (withPar (withId y x.id) x.par)
theorem fnd_zero (bl : List K) (x : K) : fnd bl x 0 = false := by unfold fnd; rw [List.take_zero]; rfl
theorem fnd_succ (bl : List K) (x : K) (m : Nat) (h : m < bl.length) : fnd bl x (m + 1) = (fnd bl x m || kEq x (withPar (withId (keyAt bl m) x.id) x.par)) := by
  unfold fnd
  rw [take_keyAt bl m h, List.any_append, List.any_cons, List.any_nil, Bool.or_false]
theorem fnd_all (bl : List K) (x : K) (h : ∃ y ∈ bl, x = withPar (withId y x.id) x.par) : fnd bl x bl.length = true := by
  unfold fnd
  rw [List.take_length, List.any_eq_true]
  obtain ⟨y, hy, e⟩ := h
  refine ⟨y, hy, ?_⟩
  rw [kEq_eq, ← e]
  exact decide_eq_true rfl
/-- x has no parent, or one among the first m -/
def ear (l : List K) (x : K) (m : Nat) : Bool := (x.par == 0) || (l.take m).any fun y => y.id == x.par
theorem ear_zero (l : List K) (x : K) : ear l x 0 = (x.par == 0) := by unfold ear; rw [List.take_zero]; simp
theorem ear_succ (l : List K) (x : K) (m : Nat) (h : m < l.length) : ear l x (m + 1) = (ear l x m || ((keyAt l m).id == x.par)) := by
  unfold ear
  rw [take_keyAt l m h, List.any_append, List.any_cons, List.any_nil, Bool.or_false, Bool.or_assoc]
theorem ear_all (l : List K) (x : K) (m : Nat) (hm : m ≤ l.length) (h : x.par = 0 ∨ ∃ i, i < m ∧ (keyAt l i).id = x.par) : ear l x m = true := by
  unfold ear
  rcases h with h | ⟨i, hi, h⟩
  · rw [h]; rfl
  · have : (l.take m).any (fun y => y.id == x.par) = true := by
      rw [List.any_eq_true]
      refine ⟨l[i], ?_, ?_⟩
      · rw [List.mem_take_iff_getElem]
        exact ⟨i, by omega, rfl⟩
      · rw [← keyAt_eq l i (by omega), h]; simp
    rw [this, Bool.or_true]
/-- the j-th new key -/
structure NewAt (n0 : Int) (a0 bl : List K) (now : Int) (s : PS) (j : Nat) : Prop where
  id : intAt s.ids j = n0 + j
  kid : (keyAt s.ks (a0.length + j)).id = n0 + j
  fin : now < (keyAt s.ks (a0.length + j)).fin
  fnd : fnd bl (keyAt s.ks (a0.length + j)) bl.length = true
  ear : ear s.ks (keyAt s.ks (a0.length + j)) (a0.length + j) = true
theorem newAt {n0 : Int} {a0 bl : List K} {now : Int} {s : PS} (h : Good n0 a0 bl now s) (j : Nat) (hj : j < s.ids.length) : NewAt n0 a0 bl now s j := by
  have hk := h.klen
  obtain ⟨new, hks, hl, hn⟩ := h.news
  obtain ⟨e1, e2, e3, e4, e5⟩ := hn j (by omega)
  have hx : keyAt s.ks (a0.length + j) = keyAt new j := by rw [hks]; exact keyAt_append_right a0 new j (by omega)
  refine ⟨?_, by rw [hx]; exact e2, by rw [hx]; exact e3, fnd_all _ _ (by rw [hx]; exact e4), ear_all _ _ _ (by omega) (by rw [hx]; exact e5)⟩
  unfold intAt
  rw [List.getD_eq_getElem?_getD, e1]
  rfl
theorem old_key {n0 : Int} {a0 bl : List K} {now : Int} {s : PS} (h : Good n0 a0 bl now s) (i : Nat) (hi : i < a0.length) : keyAt s.ks i = keyAt a0 i := by
  obtain ⟨new, hks, _, _⟩ := h.news
  rw [hks]; exact keyAt_append_left a0 new i hi
end Go.Proofs.YtbpjdfnnlmblaaaDoor
/- The examples of custodylaw36: what each call of them answers. -/
namespace Go.Proofs.YtbpjdfnnlmblaaaDoor
open Go.RowKit Go.Shelf
set_option linter.unusedSimpArgs false
set_option linter.unusedVariables false
/-- the parts of a blob that was made -/
theorem make_parts (dk : List UInt8) (b : BK) (l : List K) (hb : b.mach) (h : makeOk dk b l = true) :
    blH (makeP dk b l) = headP b ∧ rdR decS (makeP dk b l) 0 = sealP (deriveP dk bkL) (headP b) (contP l) ∧ blB (makeP dk b l) = b ∧ blE (makeP dk b l) = 0 := by
  have h2 : dk.length = 32 ∧ validB b l = true := by unfold makeOk at h; simpa using h
  obtain ⟨h32, hval⟩ := h2
  obtain ⟨m1, m2, m3⟩ := validB_mo hval
  obtain ⟨hl1, hl2⟩ := headP_len b (hb.wf (by omega))
  obtain ⟨a1, a2, a3⟩ := rd_enc codecS [] (headP b) (show okS (headP b) by unfold okS; omega) (sealP (deriveP dk bkL) (headP b) (contP l))
  have hH : blH (makeP dk b l) = headP b := a1
  have hR : rdR decS (makeP dk b l) 0 = sealP (deriveP dk bkL) (headP b) (contP l) := a2
  have hX : rdX decS (makeP dk b l) 0 = 0 := a3
  obtain ⟨c1, c2⟩ := hd_enc b hb (by omega)
  have hB : blB (makeP dk b l) = b := by unfold blB; rw [hH, hX, c1]
  have hE : blE (makeP dk b l) = 0 := by
    unfold blE
    rw [hH, hX, c2, validB_nil hval]
    rfl
  exact ⟨hH, hR, hB, hE⟩
/-- the length of a blob -/
theorem makeP_len (dk : List UInt8) (b : BK) (l : List K) (hb : b.mach) (h : makeOk dk b l = true) : (makeP dk b l).length ≤ 700000 := by
  have h2 : dk.length = 32 ∧ validB b l = true := by unfold makeOk at h; simpa using h
  obtain ⟨h32, hval⟩ := h2
  obtain ⟨m1, m2, m3⟩ := validB_mo hval
  obtain ⟨hl1, hl2⟩ := headP_len b (hb.wf (by omega))
  have hcl := contP_len hval
  have hsE : sealE (deriveP dk bkL) (headP b) (contP l) = 0 := by
    unfold sealE
    rw [if_pos (deriveP_len _ _), if_neg (by omega)]
  have hsX : sealX (deriveP dk bkL) (headP b) (contP l) = sealP (deriveP dk bkL) (headP b) (contP l) := by
    unfold sealX
    rw [if_pos ⟨deriveP_len _ _, by omega⟩]
  obtain ⟨_, _, o3⟩ := law_rt (deriveP dk bkL) (headP b) (contP l) hsE
  rw [hsX] at o3
  have he := encS_len (headP b)
  unfold makeP
  rw [List.length_append, o3]
  omega
/-- another key -/
theorem opE_other (ok dk : List UInt8) (b : BK) (l : List K) (hb : b.mach) (h : makeOk dk b l = true) (h32 : ok.length = 32)
    (hne : openE (deriveP ok bkL) (headP b) (sealP (deriveP dk bkL) (headP b) (contP l)) ≠ 0) :
    opE ok (makeP dk b l) = openE (deriveP ok bkL) (headP b) (sealP (deriveP dk bkL) (headP b) (contP l)) := by
  obtain ⟨p1, p2, p3, p4⟩ := make_parts dk b l hb h
  have hO : blO ok (makeP dk b l) = openE (deriveP ok bkL) (headP b) (sealP (deriveP dk bkL) (headP b) (contP l)) := by unfold blO; rw [p1, p2]
  unfold opE
  rw [if_pos h32, if_pos p4, hO, if_neg hne]
def vS (c : UInt8) : List UInt8 := List.replicate 32 c
def kS : K := ⟨3, 1, vS 118, 8, 0, 9, 2, 0, true⟩
def dS (c : UInt8) : List UInt8 := c :: List.replicate 15 0
def bS : BK := ⟨dS 1, 2, 3, 4, 5, dS 6, [109]⟩
theorem vS_len (c : UInt8) : (vS c).length = 32 := by unfold vS; simp
theorem machS : bS.mach := ⟨rfl, rfl, by intro x hx; unfold bS at hx; simp only [List.mem_cons, List.not_mem_nil, or_false] at hx; unfold okI; rcases hx with rfl | rfl | rfl | rfl <;> omega, by unfold maxLen; decide⟩
theorem numS : numK [kS] := by
  intro i hi
  match i, hi with
  | 0, _ =>
    rw [show keyAt [kS] 0 = kS from rfl]
    intro x hx
    unfold kS numsK rawI at hx
    simp only [List.mem_cons, List.not_mem_nil, or_false] at hx
    unfold okI
    rcases hx with rfl | rfl | rfl | rfl | rfl | rfl | rfl | rfl <;> first | omega | simp
theorem valS : validB bS [kS] = true := by kernel_rfl
theorem makeOkS : makeOk (vS 100) bS [kS] = true := by unfold makeOk; rw [valS, decide_eq_true (vS_len 100)]; rfl
/-- the blob of the examples -/
def sS : List UInt8 := makeP (vS 100) bS [kS]
theorem sS_x : makeX (vS 100) bS [kS] = sS := by unfold makeX; rw [if_pos makeOkS]; rfl
theorem sS_e : makeE (vS 100) bS [kS] = 0 := by unfold makeE; rw [if_pos makeOkS]
theorem sS_len : sS.length ≤ 700000 := makeP_len _ _ _ machS makeOkS
theorem sS_open : opE (vS 100) sS = 0 ∧ opB (vS 100) sS = bS ∧ opK (vS 100) sS = [kS] := rt_open _ _ _ machS numS makeOkS
theorem sS_peek : pkB sS = bS ∧ blE sS = 0 := by
  obtain ⟨_, _, p3, p4⟩ := make_parts (vS 100) bS [kS] machS makeOkS
  have h4 : blE sS = 0 := p4
  exact ⟨by unfold pkB; rw [if_pos h4]; exact p3, h4⟩
/-! the values on the way, one by one -/
def dV : List UInt8 := [230, 98, 169, 213, 72, 168, 165, 167, 111, 20, 68, 139, 62, 199, 44, 170, 151, 150, 200, 179, 186, 142, 199, 7, 202,   97, 110, 159, 70, 181, 119, 239]
def xV : List UInt8 := [162, 121, 190, 203, 98, 46, 3, 91, 99, 170, 111, 199, 237, 37, 61, 200, 92, 59, 138, 34, 116, 156, 127, 181, 63, 220,   149, 91, 46, 237, 51, 146]
def hV : List UInt8 := [1, 0, 0, 0, 0, 0, 0, 0, 0, 0, 0, 0, 0, 0, 0, 0, 129, 4, 129, 2, 129, 3, 129, 4, 129, 5, 6, 0, 0, 0, 0, 0, 0, 0, 0, 0,   0, 0, 0, 0, 0, 0, 129, 1, 109]
def tV : List UInt8 := [129, 1, 129, 54, 129, 2, 129, 16, 129, 8, 129, 3, 129, 1, 129, 8, 128, 129, 9, 129, 2, 128, 129, 1, 129, 32, 118, 118,   118, 118, 118, 118, 118, 118, 118, 118, 118, 118, 118, 118, 118, 118, 118, 118, 118, 118, 118, 118, 118, 118, 118,   118, 118, 118, 118, 118, 118, 118]
def mD : List UInt8 := [12, 217, 205, 185, 191, 255, 218, 22, 141, 194, 187, 63, 219, 83, 62, 21, 143, 84, 17, 225, 231, 131, 80, 101, 218,   212, 124, 112, 174, 218, 15, 249]
def eD : List UInt8 := [60, 101, 147, 231, 220, 45, 79, 12, 22, 99, 252, 78, 209, 26, 218, 15, 81, 59, 8, 212, 123, 196, 247, 240, 25, 187,   108, 213, 1, 190, 27, 84]
def nD : List UInt8 := [67, 148, 179, 37, 73, 103, 194, 240, 121, 228, 237, 31]
def cD : List UInt8 := [32, 38, 199, 180, 50, 200, 215, 77, 182, 176, 155, 27, 162, 3, 60, 230, 207, 186, 172, 148, 94, 196, 40, 153, 196, 52,   70, 39, 114, 141, 247, 121, 153, 168, 1, 208, 201, 0, 22, 148, 247, 141, 223, 245, 89, 123, 13, 73, 134, 2, 175, 143,   190, 56, 228, 233, 46, 249]
def gD : List UInt8 := [63, 116, 110, 131, 147, 141, 161, 34, 39, 108, 241, 161, 19, 176, 230, 120]
def mX : List UInt8 := [51, 240, 83, 143, 204, 107, 38, 237, 178, 208, 90, 216, 72, 84, 86, 207, 142, 83, 117, 246, 7, 101, 188, 13, 135, 93,   65, 47, 122, 214, 29, 186]
def gX : List UInt8 := [183, 31, 24, 178, 175, 148, 160, 146, 194, 87, 67, 88, 192, 254, 58, 115]
theorem d_val : deriveP (vS 100) bkL = dV := by decide +kernel
theorem x_val : deriveP (vS 120) bkL = xV := by decide +kernel
theorem h_val : headP bS = hV := by decide +kernel
theorem tx_val : contP [kS] = tV := by decide +kernel
theorem md_val : macK dV = mD := by decide +kernel
theorem ed_val : encK dV = eD := by decide +kernel
theorem nd_val : nonceP mD hV tV = nD := by decide +kernel
theorem cd_val : xorP eD nD tV = cD := by decide +kernel
theorem gd_val : tagP mD nD hV cD = gD := by decide +kernel
theorem mx_val : macK xV = mX := by decide +kernel
theorem gx_val : tagP mX nD hV cD = gX := by decide +kernel
theorem seal_val : sealP dV hV tV = nD ++ (cD ++ gD) := by unfold sealP; rw [md_val, nd_val, ed_val, cd_val, gd_val]
theorem sS_auth : openE (deriveP (vS 120) bkL) (headP bS) (sealP (deriveP (vS 100) bkL) (headP bS) (contP [kS])) = 8 := by
  rw [d_val, x_val, h_val, tx_val, seal_val]
  unfold openE openP
  rw [mx_val, show bN (nD ++ (cD ++ gD)) = nD by decide +kernel, show bC (nD ++ (cD ++ gD)) = cD by decide +kernel, show bT (nD ++ (cD ++ gD)) = gD by decide +kernel, gx_val]
  decide +kernel
theorem sS_other : opE (vS 120) sS = 8 := by
  have h := opE_other (vS 120) (vS 100) bS [kS] machS makeOkS (vS_len 120) (by rw [sS_auth]; decide)
  rw [sS_auth] at h
  exact h
theorem wfS : ∀ i, i < [kS].length → (keyAt [kS] i).wf := by
  intro i hi
  match i, hi with
  | 0, _ => exact ⟨by decide, by decide⟩
theorem cS5 : compB [kS] [kS] 5 = true := by kernel_rfl
theorem cE5 : compB [] [kS] 5 = false := by kernel_rfl
theorem cE9 : compB [] [kS] 9 = true := by kernel_rfl
theorem selS : selK 5 [kS] = [kS] := by kernel_rfl
theorem bS_wf : bS.wf := machS.wf (by unfold bS; decide)
theorem headS_len : (32 : Int) < ((headP bS).length : Int) := by
  have h1 : bS.dom.length = 16 := machS.dom
  have h2 : bS.pol.length = 16 := machS.pol
  have h3 := encS_pos bS.mo
  unfold headP
  rw [List.length_append, List.length_append, List.length_append]
  omega
theorem sameS1 : sameB bS [kS] bS [kS] = true := by kernel_rfl
theorem sameS2 : sameB bS [] bS [] = true := by kernel_rfl
theorem samePS1 : sameP bS [kS] bS [kS] = true := by unfold sameP; simp
theorem samePS2 : sameP bS [kS] bS [] = false := by unfold sameP; simp
/-! the examples' calls -/
theorem y_make (w : World) (u : Value) (hk : KAt w) (hu : RdK w u [kS]) : Calls Tryd.prog 8 #[.string ⟨(vS 100).toArray⟩, .agg (bc bS u)] w fun e w' => e = .returned (.tuple #[.string ⟨sS.toArray⟩, .int .i64 0]) ∧ Below w.heap.size w w' := by
  have h := make_t (vS 100) bS u [kS] w hk hu machS numS
  rw [sS_x, sS_e] at h
  exact h
theorem y_short (w : World) (u : Value) (hk : KAt w) (hu : RdK w u [kS]) : Calls Tryd.prog 8 #[.string ⟨#[115, 104, 111, 114, 116]⟩, .agg (bc bS u)] w fun e w' => e = .returned (.tuple #[.string ⟨#[]⟩, .int .i64 1]) ∧ Below w.heap.size w w' := by
  have h := make_t [115, 104, 111, 114, 116] bS u [kS] w hk hu machS numS
  have e0 : makeOk [115, 104, 111, 114, 116] bS [kS] = false := by unfold makeOk; rw [decide_eq_false (by decide)]; rfl
  have e1 : makeX [115, 104, 111, 114, 116] bS [kS] = [] := by unfold makeX; rw [e0]; rfl
  have e2 : makeE [115, 104, 111, 114, 116] bS [kS] = 1 := by unfold makeE; rw [e0]; rfl
  rw [e1, e2] at h
  exact h
theorem y_open (w : World) (hk : KAt w) : Calls Tryd.prog 9 #[.string ⟨(vS 100).toArray⟩, .string ⟨sS.toArray⟩] w fun e w' => ∃ a c, e = .returned (.tuple #[.agg (bc bS (.slice a 1 c)), .int .i64 0]) ∧ RdK w' (.slice a 1 c) [kS] ∧ Below w.heap.size w w' := by
  have h := bopen_c (vS 100) sS w hk (vS_len 100) (by have := sS_len; omega)
  obtain ⟨e1, e2, e3⟩ := sS_open
  rw [e1, e2, e3] at h
  refine h.mono fun e w' h => ?_
  obtain ⟨v, he, hr, hb⟩ := h
  obtain ⟨a, c, rfl, _, _, _⟩ := id hr
  exact ⟨a, c, he, hr, hb⟩
theorem y_other (w : World) (hk : KAt w) : Calls Tryd.prog 9 #[.string ⟨(vS 120).toArray⟩, .string ⟨sS.toArray⟩] w fun e w' => ∃ a n c, e = .returned (.tuple #[.agg (bc zB (.slice a n c)), .int .i64 8]) ∧ Below w.heap.size w w' := by
  have h := bopen_c (vS 120) sS w hk (vS_len 120) (by have := sS_len; omega)
  have e2 : opB (vS 120) sS = zB := by unfold opB; rw [sS_other]; rfl
  rw [sS_other, e2] at h
  refine h.mono fun e w' h => ?_
  obtain ⟨v, he, hr, hb⟩ := h
  obtain ⟨a, c, rfl, _, _, _⟩ := hr
  exact ⟨a, _, c, he, hb⟩
theorem y_peek (w : World) : Calls Tryd.prog 23 #[.string ⟨sS.toArray⟩] w fun e w' => e = .returned (.tuple #[.agg (bc bS nilS), .int .i64 0]) ∧ Below w.heap.size w w' := by
  have h := peekf_c sS w (by have := sS_len; omega)
  rw [sS_peek.1, sS_peek.2] at h
  exact h
theorem y_same1 (w : World) (v u : Value) (hv : RdK w v [kS]) (hu : RdK w u [kS]) : Calls Tryd.prog 10 #[.agg (bc bS v), .agg (bc bS u)] w fun e w' => e = .returned (.bool true) ∧ Below w.heap.size w w' := by
  have h := same_r bS bS v u [kS] [kS] w hv hu
  rw [sameS1] at h
  exact h
theorem y_same2 (w : World) : Calls Tryd.prog 10 #[.agg (bc bS nilS), .agg (bc bS nilS)] w fun e w' => e = .returned (.bool true) ∧ Below w.heap.size w w' := by
  have h := same_r bS bS nilS nilS [] [] w (rdK_nil w) (rdK_nil w)
  rw [sameS2] at h
  exact h
theorem y_valid (w : World) (u : Value) (hu : RdK w u [kS]) : Calls Tryd.prog 24 #[.agg (bc bS u)] w fun e w' => e = .returned (.bool true) ∧ Below w.heap.size w w' := by
  have h := validB_c bS u [kS] w hu wfS machS.mo
  rw [valS] at h
  exact h
theorem y_eq1 (w : World) (v u : Value) (hv : RdK w v [kS]) (hu : RdK w u [kS]) : Calls Tryd.prog 25 #[.agg (bc bS v), .agg (bc bS u)] w fun e w' => e = .returned (.bool true) ∧ Below w.heap.size w w' := by
  have h := same_c bS bS v u [kS] [kS] w hv hu bS_wf bS_wf
  rw [samePS1] at h
  exact h
theorem y_eq2 (w : World) (v : Value) (hv : RdK w v [kS]) : Calls Tryd.prog 25 #[.agg (bc bS v), .agg (bc bS nilS)] w fun e w' => e = .returned (.bool false) ∧ Below w.heap.size w w' := by
  have h := same_c bS bS v nilS [kS] [] w hv (rdK_nil w) bS_wf bS_wf
  rw [samePS2] at h
  exact h
theorem y_comp (now : Int) (l : List K) (r : Bool) (hr : compB l [kS] now = r) (w : World) (v u : Value) (hv : RdK w v [kS]) (hu : RdK w u l) : Calls Tryd.prog 13 #[.agg (bc bS u), .agg #[.int .i64 9, v], .int .i64 now] w fun e w' => e = .returned (.bool r) ∧ Below w.heap.size w w' := by
  have h := complete_c 9 now v u [kS] l bS w hv hu (by decide)
  rw [hr] at h
  exact h
theorem y_sel (w : World) (v : Value) (hv : RdK w v [kS]) : Calls Tryd.prog 12 #[.agg #[.int .i64 9, v], .int .i64 5] w fun e w' => ∃ a c, e = .returned (.slice a 1 c) ∧ Below w.heap.size w w' := by
  have h := select_c 9 5 v [kS] w hv (by decide)
  rw [selS] at h
  refine h.mono fun e w' h => ?_
  obtain ⟨v, he, hr, hb⟩ := h
  obtain ⟨a, c, rfl, _, _, _⟩ := hr
  exact ⟨a, c, he, hb⟩
end Go.Proofs.YtbpjdfnnlmblaaaDoor
