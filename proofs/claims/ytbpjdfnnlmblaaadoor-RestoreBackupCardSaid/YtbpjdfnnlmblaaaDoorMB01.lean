/- Parts of a proof, joined: contracts of functions of the program and plain lemmas (BamA, BamB, SanK, BamC). No condition. -/
import Derived.Test.YtbpjdfnnlmblaaaDoorMA13
/- custodyref27's Live, at and Get. -/
namespace Go.Proofs.YtbpjdfnnlmblaaaDoor
open Go.RowKit Go.Shelf
set_option linter.unusedSimpArgs false
set_option linter.unusedVariables false
attribute [local irreducible] Calls
set_option maxRecDepth 100000 in
set_option maxHeartbeats 1000000 in
theorem live_r (k : K) (now : Int) (w : World) : Calls Tryd.prog 18 #[kv k, .int .i64 now] w fun e w' => e = .returned (.bool (liveK now k)) ∧ Below w.heap.size w w' := by
  unfold kv kc liveK
  have HB := Lib.hid ((Below.refl w.heap.size w).alloc (Nat.le_refl _) (.cells #[.int .i64 k.id, .int .i64 k.ty, .string ⟨k.val.toArray⟩, .int .i64 k.uses, .int .i64 k.start, .int .i64 k.fin, .int .i64 k.ver, .int .i64 k.par, .bool k.raw] 48))
  by_cases h1 : k.start ≤ now
  · by_cases h2 : now < k.fin
    · rw [decide_eq_true h1, decide_eq_true h2]
      go_enter Tryd.func18, Tryd.ntmps18
      go_wp2
      go_ret
      exact ⟨rfl, HB.out⟩
    · rw [decide_eq_true h1, decide_eq_false h2]
      go_enter Tryd.func18, Tryd.ntmps18
      go_wp2
      go_ret
      exact ⟨rfl, HB.out⟩
  · rw [decide_eq_false h1]
    go_enter Tryd.func18, Tryd.ntmps18
    go_wp2
    go_ret
    exact ⟨rfl, HB.out⟩
/-- the place of the key with an Id, or -1 -/
def atK (l : List K) (id : Int) : Int := firstIx (fun k => decide (k.id = id)) l
set_option maxRecDepth 100000 in
set_option maxHeartbeats 2000000 in
theorem at_r (nx : Int) (v : Value) (l : List K) (id : Int) (w : World) (hv : RdK w v l) :
    Calls Tryd.prog 50 #[.agg #[.int .i64 nx, v], .int .i64 id] w fun e w' => e = .returned (.int .i64 (atK l id)) ∧ Below w.heap.size w w' := by
  have hlen := hv.len
  unfold maxLen at hlen
  have hv9 := hv
  obtain ⟨va, vc, rfl, _, _, _⟩ := hv9
  obtain ⟨W0, hW0⟩ : ∃ W0, W0 = w.alloc (.cells #[.int .i64 nx, .slice va l.length vc] 37) := ⟨_, rfl⟩
  have HW := Lib.hid hW0
  have HBE : Hid (Below w.heap.size w W0) := Lib.hid (by rw [hW0]; exact (Below.refl _ _).alloc (Nat.le_refl _) _)
  have hR : W0.heap[w.heap.size]? = some (.cells #[.int .i64 nx, .slice va l.length vc] 37 (0, 0)) := by rw [hW0]; exact heap_last _ _ _ rfl
  have HV : Hid (RdK W0 (.slice va l.length vc) l) := Lib.hid (by rw [hW0]; exact hv.alloc _)
  have a0 : W0.cell? ⟨w.heap.size, 0, none⟩ = some (.int .i64 nx) := by rw [cell_of_row _ _ _ _ _ _ hR]; rfl
  have a1 : W0.cell? ⟨w.heap.size, 1, none⟩ = some (.slice va l.length vc) := by rw [cell_of_row _ _ _ _ _ _ hR]; rfl
  clear hv hW0 hR
  go_enter Tryd.func50, Tryd.ntmps50
  go_upto_region 1 with fail
  rw [← HW.out]
  go_wp2
  go_loopw [5] (fun o wr => ∃ i : Nat, i ≤ l.length ∧ o = .int .i64 i ∧ Hid (∀ j, j < i → (keyAt l j).id ≠ id) ∧ wr = W0) (fun o _ => l.length - (intOf o).toNat)
  case atStart => exact ⟨0, Nat.zero_le _, rfl, Lib.hid (fun j hj => absurd hj (by omega)), rfl⟩
  case round =>
    obtain ⟨i, hi, rfl, hno, hwr⟩ := hrel
    rw [hwr]
    clear hwr
    by_cases hlt : i < l.length
    · obtain ⟨bb, off, rfl, hb1, hrow⟩ := (HV.out.cells) (by omega)
      obtain ⟨d0, d1, d2, d3, d4, d5, d6, d7, d8⟩ := hrow i hlt
      have i1 : (i : Int) < l.length := by omega
      have HK := Lib.hid hlt
      have HNO := hno
      clear hrow hno
      by_cases hq : (keyAt l i).id = id
      · have e1 : ((keyAt l i).id == id) = true := by rw [beq_iff_eq]; exact hq
        have hres : atK l id = i := firstIx_hit _ l i hlt (fun j hj => decide_eq_false (HNO.out j hj)) (decide_eq_true hq)
        have HRES := Lib.hid hres
        clear hq hres hlt
        go_wp2
        go_ret
        exact ⟨by rw [HRES.out]; rfl, HBE.out⟩
      · have e1 : ((keyAt l i).id == id) = false := by rw [beq_eq_false_iff_ne]; exact hq
        have HQ := Lib.hid hq
        clear hq
        go_wp2
        go_roundw
        case rel => exact ⟨i + 1, HK.out, by go_num, Lib.hid (fun j hj => by
          by_cases e : j = i
          · subst e; exact HQ.out
          · exact HNO.out j (by omega)), by first | exact rfl | exact trivial⟩
        case measure => have := HK.out; simp [intOf]; omega
    · have i1 : (l.length : Int) ≤ i := by omega
      have hres : atK l id = -1 := firstIx_miss _ l (fun j hj => decide_eq_false (hno.out j (by omega)))
      have HA := Lib.hid hres
      clear hno hres hlt hi
      go_wp2
      go_ret
      exact ⟨by rw [HA.out]; rfl, HBE.out⟩
set_option maxRecDepth 100000 in
set_option maxHeartbeats 2000000 in
theorem get_hit (nx : Int) (v : Value) (l : List K) (id : Int) (i : Nat) (w : World) (hv : RdK w v l) (hi : i < l.length) (ha : atK l id = i) :
    Calls Tryd.prog 20 #[.agg #[.int .i64 nx, v], .int .i64 id] w fun e w' => e = .returned (.tuple #[.agg (kc (keyAt l i)), .int .i64 0]) ∧ Below w.heap.size w w' := by
  have hlen := hv.len
  unfold maxLen at hlen
  have hz := zero_key
  have hv9 := hv
  obtain ⟨va, vc, rfl, _, _, _⟩ := hv9
  obtain ⟨W0, hW0⟩ : ∃ W0, W0 = (w.alloc (.cells #[.int .i64 nx, .slice va l.length vc] 37)).alloc (.cells (kc zK) 48) := ⟨_, rfl⟩
  have HW := Lib.hid hW0
  have HBX : Hid (∀ w1, Below W0.heap.size W0 w1 → w1.heap[w.heap.size]? = some (.cells #[.int .i64 nx, .slice va l.length vc] 37 (0, 0)) ∧ w1.heap[w.heap.size + 1]? = some (.cells (kc zK) 48 (0, 0)) ∧ RdK w1 (.slice va l.length vc) l ∧ Below w.heap.size w w1) := Lib.hid (by
    intro w1 h
    rw [hW0] at h
    have h2 := below2 _ _ _ h
    exact ⟨row_keep (two_0 _ _ _) h, row_keep (two_1 _ _ _) h, hv.on h2, h2⟩)
  have HAT : Hid (Calls Tryd.prog 50 #[.agg #[.int .i64 nx, .slice va l.length vc], .int .i64 id] W0 fun e w' => e = .returned (.int .i64 i) ∧ Below W0.heap.size W0 w') := Lib.hid (by
    have h := at_r nx (.slice va l.length vc) l id W0 (by rw [hW0]; exact (hv.alloc _).alloc _)
    rw [ha] at h
    exact h)
  obtain ⟨g1, g2, g3, g4⟩ := HBX.out W0 (Below.refl _ _)
  have a0 : W0.cell? ⟨w.heap.size, 0, none⟩ = some (.int .i64 nx) := by rw [cell_of_row _ _ _ _ _ _ g1]; rfl
  have a1 : W0.cell? ⟨w.heap.size, 1, none⟩ = some (.slice va l.length vc) := by rw [cell_of_row _ _ _ _ _ _ g1]; rfl
  have i1 : (i : Int) < l.length := by omega
  have HI := Lib.hid hi
  clear hv hW0 ha g1 g2 g3 g4
  go_enter Tryd.func20, Tryd.ntmps20
  go_upto_region 1 with fail
  change Code.wp _ _ _ _ ((w.alloc (.cells #[.int .i64 nx, .slice va l.length vc] 37)).alloc (.cells (kc zK) 48))
  rw [← HW.out]
  go_upto_region 4 with (go_at_call 50; refine HAT.out.mono ?_; rintro e w1 ⟨rfl, hb⟩; have HB := Lib.hid hb; clear a0 a1 hb)
  obtain ⟨g1, g2, g3, g4⟩ := HBX.out _ HB.out
  have a1 : w1.cell? ⟨w.heap.size, 1, none⟩ = some (.slice va l.length vc) := by rw [cell_of_row _ _ _ _ _ _ g1]; rfl
  obtain ⟨bb, off, rfl, hb1, hrow⟩ := (g3.cells) (by have := HI.out; omega)
  obtain ⟨d0, d1, d2, d3, d4, d5, d6, d7, d8⟩ := hrow i HI.out
  have HG2 := Lib.hid g2
  have HG4 := Lib.hid g4
  clear hrow g1 g2 g3 g4
  obtain ⟨y, hy⟩ : ∃ y, keyAt l i = y := ⟨_, rfl⟩
  rw [hy] at d0 d1 d2 d3 d4 d5 d6 d7 d8
  have HY := Lib.hid hy
  clear hy
  go_wp2_with (refine st_key0 y zK rfl (.tmp 4) (.tmp 17) rfl _ rfl rfl _ HG2.out ?_)
  refine bodyPost_ret (results_row2 rfl _ _ (w.heap.size + 1) _ rfl (run_keyrow _ _ y _ (setRow_heap _ _ _ _ _ _ HG2.out))) rfl ?_
  exact ⟨by rw [HY.out]; rfl, HG4.out.trans (kbelow_row (Nat.le_of_lt (by have := HG4.out.size; omega)))⟩
end Go.Proofs.YtbpjdfnnlmblaaaDoor
/- A backup of the live keys of a valid table is valid, and is restored: in plain words. -/
namespace Go.Proofs.YtbpjdfnnlmblaaaDoor
open Go.RowKit Go.Shelf
set_option linter.unusedSimpArgs false
set_option linter.unusedVariables false
/-- the Ids of a valid table rise -/
theorem tab_rise {nx : Int} {l : List K} (h : validTab nx l = true) : ∀ j, j < l.length → ∀ i, i < j → (keyAt l i).id < (keyAt l j).id := by
  obtain ⟨_, _, _, hk⟩ := (validTab_iff nx l).1 h
  intro j
  induction j with
  | zero => intro _ i hi; omega
  | succ j ih =>
    intro hj i hi
    have h1 := ((okAt_iff _ _ _).1 (hk (j + 1) hj)).2.1
    rw [lastId_succ] at h1
    by_cases e : i = j
    · subst e; exact h1
    · have := ih (by omega) i (by omega)
      omega
theorem tab_pos {nx : Int} {l : List K} (h : validTab nx l = true) : ∀ j, j < l.length → 0 < (keyAt l j).id := by
  obtain ⟨_, _, _, hk⟩ := (validTab_iff nx l).1 h
  intro j hj
  have h0 := ((okAt_iff _ _ _).1 (hk 0 (by omega))).2.1
  rw [lastId_zero] at h0
  by_cases e : j = 0
  · subst e; exact h0
  · have := tab_rise h j hj 0 (by omega)
    omega
theorem tab_mem {nx : Int} {l : List K} (h : validTab nx l = true) : ∀ k ∈ l, validK k = true ∧ 0 < k.id ∧ k.id < nx ∧ k.par < nx := by
  intro k hk
  obtain ⟨j, hj, rfl⟩ := List.mem_iff_getElem.1 hk
  obtain ⟨_, _, _, ho⟩ := (validTab_iff nx l).1 h
  have h1 := (okAt_iff _ _ _).1 (ho j hj)
  have h2 := tab_pos h j hj
  rw [keyAt_eq l j hj] at h1 h2
  exact ⟨h1.1, h2, h1.2.2.1, h1.2.2.2⟩
theorem tab_pw {nx : Int} {l : List K} (h : validTab nx l = true) : l.Pairwise (fun a b => a.id < b.id) := by
  rw [List.pairwise_iff_getElem]
  intro i j hi hj hij
  have := tab_rise h j hj i hij
  rwa [keyAt_eq l i hi, keyAt_eq l j hj] at this
/-- the backup of the law -/
def bR (now : Int) : BK := ⟨z16, 0, 1, 0, now, z16, [109]⟩
theorem bR_mach (now : Int) (h0 : 0 ≤ now) (h1 : now ≤ 1099511627776) : (bR now).mach :=
  ⟨rfl, rfl, by intro x hx; unfold bR at hx; simp only [List.mem_cons, List.not_mem_nil, or_false] at hx; unfold okI; rcases hx with rfl | rfl | rfl | rfl <;> omega, by show 1 ≤ maxLen; unfold maxLen; decide⟩
theorem validB_pw {b : BK} {l : List K} (hh : headB b l = true) (hm : ∀ k ∈ l, validK k = true ∧ 0 < k.id ∧ k.id ≤ 2147483647) (hp : l.Pairwise (fun a b => a.id < b.id)) : validB b l = true := by
  unfold validB
  rw [hh, Bool.true_and, List.all_eq_true]
  intro i hi
  have hlt : i < l.length := List.mem_range.1 hi
  obtain ⟨h1, h2, h3⟩ := hm (keyAt l i) (by rw [keyAt_eq l i hlt]; exact List.getElem_mem hlt)
  have h4 : lastId l i < (keyAt l i).id := by
    unfold lastId
    by_cases e : i = 0
    · rw [if_pos e]; exact h2
    · rw [if_neg e, keyAt_eq l i hlt, keyAt_eq l (i - 1) (by omega)]
      exact List.pairwise_iff_getElem.1 hp (i - 1) i (by omega) hlt (by omega)
  unfold okB
  rw [h1, decide_eq_true h4, decide_eq_true h3]
  rfl
theorem bR_valid {nx now : Int} {tl : List K} (h : validTab nx tl = true) (hl : tl.length ≤ 40) (h0 : 0 ≤ now) (h1 : now ≤ 1099511627776) : validB (bR now) (selK now tl) = true := by
  have hs := selK_len now tl
  have hnx := ((validTab_iff nx tl).1 h).2.2.1
  refine validB_pw ?_ ?_ ?_
  · unfold headB bR
    simp only [Bool.and_eq_true, decide_eq_true_eq, win_iff]
    refine ⟨⟨⟨⟨⟨⟨?_, ?_⟩, ?_⟩, ?_⟩, ?_⟩, ?_⟩, ?_⟩ <;> first | omega | (constructor <;> omega) | (simp)
  · intro k hk
    have hm : k ∈ tl := (List.mem_filter.1 hk).1
    obtain ⟨a, b, c, _⟩ := tab_mem h k hm
    exact ⟨a, b, by omega⟩
  · exact (tab_pw h).filter _
/-- no step of the plan fails -/
theorem plRun_ok {nx : Int} {tl bl : List K} {now : Int} (hnx : nx ≤ 2147483548) (htl : tl.length ≤ 40) (hbv : ∀ x ∈ bl, validK x = true) (l : List K) : ∀ (s : PS), Good nx tl bl now s → (∀ x ∈ l, x ∈ bl) → s.ids.length + l.length ≤ 40 → ∃ s', plRun now s l = .ok s' := by
  induction l with
  | nil => intro s _ _ _; exact ⟨s, rfl⟩
  | cons x l ih =>
    intro s hg hx hl
    rw [List.length_cons] at hl
    have hstep : ∃ s1, plStep now s x = .ok s1 ∧ s1.ids.length ≤ s.ids.length + 1 := by
      rcases plStep_parts now s x with ⟨_, e⟩ | ⟨_, ht, e⟩ | ⟨hf, ht, he, e⟩ | ⟨hf, ht, he, e⟩
      · exact ⟨s, e, by omega⟩
      · exact ⟨plTwin s x, e, by show s.ids.length ≤ _; omega⟩
      · exfalso
        apply he
        obtain ⟨_, n1, n2, _⟩ := (validTab_iff _ _).1 hg.tab
        have hn := hg.nxt
        have hk := hg.klen
        have hpar : 0 ≤ lookP s.ps x.par ∧ lookP s.ps x.par < s.nx := by
          rcases lookP_mem s.ps x.par with h0 | ⟨p, hp, h0⟩
          · rw [h0]; omega
          · obtain ⟨k, hk1, hk2⟩ := hg.pto p hp
            obtain ⟨_, b, c, _⟩ := tab_mem hg.tab k hk1
            rw [← h0, ← hk2]
            omega
        rw [addErr_zero]
        refine ⟨?_, hpar.2, by omega, by omega⟩
        have hv := hbv x (hx x (by simp))
        unfold validK at hv ⊢
        simp only [Bool.and_eq_true, win_iff] at hv ⊢
        refine ⟨hv.1, ?_⟩
        show 0 ≤ lookP s.ps x.par ∧ lookP s.ps x.par ≤ 2147483647
        omega
      · exact ⟨plAdd s x, e, by show (s.ids ++ [s.nx]).length ≤ _; rw [List.length_append, List.length_singleton]; omega⟩
    obtain ⟨s1, h1, h2⟩ := hstep
    rw [plRun, h1]
    exact ih s1 (hg.step x (hx x (by simp)) h1) (fun y hy => hx y (by simp [hy])) (by omega)
theorem plan_sel {nx1 nx now : Int} {tl dl : List K} (h1 : validTab nx1 tl = true) (h2 : validTab nx dl = true) (hl : tl.length ≤ 40) (hto : dl.length ≤ 40) (hnx : nx ≤ 2147483548) (h0 : 0 ≤ now) (hn : now ≤ 1099511627776) :
    ∃ s, planK nx dl (bR now) (selK now tl) now = .ok s := by
  have hv := bR_valid h1 hl h0 hn
  have hs := selK_len now tl
  unfold planK
  rw [if_pos ⟨hv, h0, hn⟩]
  refine plRun_ok hnx hto (bl := selK now tl) ?_ (selK now tl) _ (Good.start nx dl (selK now tl) now h2) (fun x hx => hx) (by show 0 + _ ≤ 40; omega)
  intro x hx
  exact (tab_mem h1 x (List.mem_filter.1 hx).1).1
theorem firstIx_uniq {l : List K} {nx : Int} (h : validTab nx l = true) (i : Nat) (hi : i < l.length) : atK l (keyAt l i).id = i := by
  refine firstIx_hit _ l i hi (fun j hj => decide_eq_false (fun e => ?_)) (decide_eq_true rfl)
  have := tab_rise h i hi j hj
  omega
theorem alike_all {a b : K} (h : alikeK a b = true) : a.ty = b.ty ∧ a.val = b.val ∧ a.uses = b.uses ∧ a.start = b.start ∧ a.fin = b.fin ∧ a.ver = b.ver ∧ a.raw = b.raw := by
  unfold alikeK at h
  simp only [Bool.and_eq_true, beq_iff_eq] at h
  simp_all
/-- the twin of a live key is got by its Id -/
theorem twin_got {nx now : Int} {dl sel : List K} {b : BK} {s : PS} (h : planK nx dl b sel now = .ok s) (ht : validTab nx dl = true) (k : K) (hk : k ∈ sel) (hf : now < k.fin) :
    twinIs s.ks k = true ∧ ∃ i, i < s.ks.length ∧ atK s.ks (twinId s.ks k) = i ∧ ∃ id par, keyAt s.ks i = ⟨id, k.ty, k.val, k.uses, k.start, k.fin, k.ver, par, k.raw⟩ := by
  have htw := plRun_twin sel _ _ (planK_ok h).2.2.2 k hk hf
  refine ⟨htw, ?_⟩
  rcases twin_parts s.ks k with ⟨_, h0, _, _⟩ | ⟨i, hi, h1, _, _, ha, _⟩
  · rw [h0] at htw; cases htw
  · refine ⟨i, hi, by rw [h1]; exact firstIx_uniq (planK_good ht h).tab i hi, (keyAt s.ks i).id, (keyAt s.ks i).par, ?_⟩
    obtain ⟨a1, a2, a3, a4, a5, a6, a7⟩ := alike_all ha
    rw [← a1, ← a2, ← a3, ← a4, ← a5, ← a6, ← a7]
end Go.Proofs.YtbpjdfnnlmblaaaDoor
/- The examples that each law plays. -/
namespace Go.Proofs.YtbpjdfnnlmblaaaDoor
open Go.RowKit Go.Shelf
set_option linter.unusedSimpArgs false
set_option linter.unusedVariables false
theorem alloc_get (w : World) (X : Obj) (g : Nat) : (w.alloc X).heap[g]? = if g = w.heap.size then some X else w.heap[g]? := by
  unfold World.alloc
  simp only [Array.getElem?_push]
/-- the blocks that the examples lay -/
structure SanW (W : World) (g : Nat) : Prop where
  t : RdK W (.slice (some ⟨g + 1, 0, none⟩) 1 1) [k1]
  b : RdK W (.slice (some ⟨g + 1 + 1 + 1 + 1 + 1, 0, none⟩) 3 3) [k1, k4, k6]
  tt : W.heap[g + 1 + 1]? = some (.cells #[.int .i64 2, .slice (some ⟨g + 1, 0, none⟩) 1 1] 37 (0, 0))
  f : KeyAt W (g + 1 + 1 + 1) k4
  bb : W.heap[g + 1 + 1 + 1 + 1 + 1 + 1]? = some (.cells (bc b0 (.slice (some ⟨g + 1 + 1 + 1 + 1 + 1, 0, none⟩) 3 3)) 26 (0, 0))
theorem SanW.on {W W' : World} {g : Nat} (h : SanW W g) (hb : Below W.heap.size W W') : SanW W' g :=
  ⟨h.t.on hb, h.b.on hb, by rw [hb.block _ (Array.getElem?_eq_some_iff.1 h.tt).1]; exact h.tt, h.f.on hb, by rw [hb.block _ (Array.getElem?_eq_some_iff.1 h.bb).1]; exact h.bb⟩
theorem san_start (w : World) : SanW (((((((w.alloc (.cells (kc k1) 48)).alloc (.cells (kc k1) 48)).alloc (.cells #[.int .i64 2, .slice (some ⟨w.heap.size + 1, 0, none⟩) 1 1] 37)).alloc (.cells (kc k4) 48)).alloc (.cells (kc k6) 48)).alloc (.cells (kflat [k1, k4, k6]).toArray 48)).alloc (.cells (bc b0 (.slice (some ⟨w.heap.size + 1 + 1 + 1 + 1 + 1, 0, none⟩) 3 3)) 26)) w.heap.size := by
  have rd : ∀ (W : World) (g : Nat) (l : List K) (n : Nat), l.length = n → n ≤ 10 → W.heap[g]? = some (.cells (kflat l).toArray 48 (0, 0)) → RdK W (.slice (some ⟨g, 0, none⟩) n n) l := by
    intro W g l n hn h10 hg
    subst hn
    exact ⟨_, _, rfl, Nat.le_refl _, by unfold maxLen; omega, fun h0 => ⟨g, 0, rfl, (Array.getElem?_eq_some_iff.1 hg).1, fun j hj i hi => by rw [Nat.zero_add, cell_of_row _ _ _ _ _ _ hg, ← kflat_at l j i hj hi]; simp⟩⟩
  have n1 : ¬ w.heap.size + 1 = w.heap.size := by omega
  refine ⟨rd _ _ _ _ rfl (by decide) ?_, rd _ _ _ _ rfl (by decide) ?_, ?_, ?_, ?_⟩
  · simp only [alloc_get, World.size_alloc]; rw [if_neg (by omega), if_neg (by omega), if_neg (by omega), if_neg (by omega), if_neg (by omega), if_pos trivial]; rfl
  · simp only [alloc_get, World.size_alloc]; rw [if_neg (by omega), if_pos trivial]
  · simp only [alloc_get, World.size_alloc]; rw [if_neg (by omega), if_neg (by omega), if_neg (by omega), if_neg (by omega), if_pos trivial]
  · unfold KeyAt; simp only [alloc_get, World.size_alloc]; rw [if_neg (by omega), if_neg (by omega), if_neg (by omega), if_pos trivial]
  · simp only [alloc_get, World.size_alloc]; rw [if_pos trivial]
theorem SanW.cells {W : World} {g : Nat} (h : SanW W g) : W.cell? ⟨g + 1 + 1, 0, none⟩ = some (.int .i64 2) ∧ W.cell? ⟨g + 1 + 1, 1, none⟩ = some (.slice (some ⟨g + 1, 0, none⟩) 1 1) ∧
    W.cell? ⟨g + 1 + 1 + 1, 0, none⟩ = some (.int .i64 4) ∧ W.cell? ⟨g + 1 + 1 + 1, 1, none⟩ = some (.int .i64 0) ∧ W.cell? ⟨g + 1 + 1 + 1, 2, none⟩ = some (.string ⟨v32.toArray⟩) ∧ W.cell? ⟨g + 1 + 1 + 1, 3, none⟩ = some (.int .i64 0) ∧
    W.cell? ⟨g + 1 + 1 + 1, 4, none⟩ = some (.int .i64 1) ∧ W.cell? ⟨g + 1 + 1 + 1, 5, none⟩ = some (.int .i64 9) ∧ W.cell? ⟨g + 1 + 1 + 1, 6, none⟩ = some (.int .i64 2) ∧ W.cell? ⟨g + 1 + 1 + 1, 7, none⟩ = some (.int .i64 1) ∧ W.cell? ⟨g + 1 + 1 + 1, 8, none⟩ = some (.bool false) :=
  ⟨cell_of_row _ _ _ _ _ _ h.tt, cell_of_row _ _ _ _ _ _ h.tt, h.f.cell 0, h.f.cell 1, h.f.cell 2, h.f.cell 3, h.f.cell 4, h.f.cell 5, h.f.cell 6, h.f.cell 7, h.f.cell 8⟩
theorem SanW.lt {W : World} {g : Nat} (h : SanW W g) : g + 1 + 1 + 1 + 1 + 1 + 1 < W.heap.size := (Array.getElem?_eq_some_iff.1 h.bb).1
/-- .. and the tables that Plan has returned, the key that is wanted, the place -/
structure SanX (W : World) (g ga gb gd ge : Nat) (a a2 a3 : Option Addr) (c c2 c3 : Nat) : Prop where
  s : SanW W g
  t7 : W.heap[ga]? = some (.cells #[.int .i64 3, .slice a 2 c] 37 (0, 0))
  u : RdK W (.slice a 2 c) [k1, k2]
  l : RdI W (.slice a2 1 c2) [2]
  t10 : W.heap[gb]? = some (.cells #[.int .i64 3, .slice a3 2 c3] 37 (0, 0))
  v : RdK W (.slice a3 2 c3) [k1, k2]
  k : KeyAt W gd k2
  p : W.heap[ge]? = some (.cells (pc p2) 82 (0, 0))
theorem row_on {W W' : World} {g : Nat} {X : Obj} (h : W.heap[g]? = some X) (hb : Below W.heap.size W W') : W'.heap[g]? = some X := by
  rw [hb.block _ (Array.getElem?_eq_some_iff.1 h).1]; exact h
theorem SanX.on {W W' : World} {g ga gb gd ge : Nat} {a a2 a3 : Option Addr} {c c2 c3 : Nat} (h : SanX W g ga gb gd ge a a2 a3 c c2 c3) (hb : Below W.heap.size W W') : SanX W' g ga gb gd ge a a2 a3 c c2 c3 :=
  ⟨h.s.on hb, row_on h.t7 hb, h.u.on hb, h.l.on hb, row_on h.t10 hb, h.v.on hb, h.k.on hb, row_on h.p hb⟩
theorem SanX.cells {W : World} {g ga gb gd ge lb loff : Nat} {a a3 : Option Addr} {c c2 c3 : Nat} (h : SanX W g ga gb gd ge a (some ⟨lb, loff, none⟩) a3 c c2 c3) : W.cell? ⟨ga, 0, none⟩ = some (.int .i64 3) ∧ W.cell? ⟨ga, 1, none⟩ = some (.slice a 2 c) ∧
    W.cell? ⟨gb, 0, none⟩ = some (.int .i64 3) ∧ W.cell? ⟨gb, 1, none⟩ = some (.slice a3 2 c3) ∧ W.cell? ⟨g + 1 + 1, 0, none⟩ = some (.int .i64 2) ∧ W.cell? ⟨g + 1 + 1, 1, none⟩ = some (.slice (some ⟨g + 1, 0, none⟩) 1 1) ∧ W.cell? ⟨lb, loff, none⟩ = some (.int .i64 2) := by
  obtain ⟨b, off, e, _, hc⟩ := h.l.cells (by decide)
  cases e
  exact ⟨cell_of_row _ _ _ _ _ _ h.t7, cell_of_row _ _ _ _ _ _ h.t7, cell_of_row _ _ _ _ _ _ h.t10, cell_of_row _ _ _ _ _ _ h.t10, cell_of_row _ _ _ _ _ _ h.s.tt, cell_of_row _ _ _ _ _ _ h.s.tt, hc 0 (by decide)⟩
theorem SanX.ukey {W : World} {g ga gb gd ge ub uoff : Nat} {a2 a3 : Option Addr} {c c2 c3 : Nat} (h : SanX W g ga gb gd ge (some ⟨ub, uoff, none⟩) a2 a3 c c2 c3) : Nine W ub (uoff + 9) k2 := by
  obtain ⟨b, off, e, _, hc⟩ := h.u.cells (by decide)
  cases e
  exact hc 1 (by decide)
theorem SanX.lts {W : World} {g ga gb gd ge ub uoff lb loff : Nat} {a3 : Option Addr} {c c2 c3 : Nat} (h : SanX W g ga gb gd ge (some ⟨ub, uoff, none⟩) (some ⟨lb, loff, none⟩) a3 c c2 c3) : ga < W.heap.size ∧ gb < W.heap.size ∧ g + 1 + 1 < W.heap.size ∧ gd < W.heap.size ∧ ge < W.heap.size ∧ ub < W.heap.size ∧ lb < W.heap.size := by
  obtain ⟨b, off, e, h1, _⟩ := h.u.cells (by decide)
  cases e
  obtain ⟨b, off, e, h2, _⟩ := h.l.cells (by decide)
  cases e
  exact ⟨(Array.getElem?_eq_some_iff.1 h.t7).1, (Array.getElem?_eq_some_iff.1 h.t10).1, (Array.getElem?_eq_some_iff.1 h.s.tt).1, h.k.lt, (Array.getElem?_eq_some_iff.1 h.p).1, h1, h2⟩
/-- a whole row is loaded in a region that draws its order -/
theorem kq_row {ops : Array Oper} {C : World → Prop} {Q : Act → Prop} {a : Act} {o : Oper} {rest : List Oper} (hw : Region.wanted o (yielded ops a.tmps) = true) (ty : TypeId) (x : Operand) (ho : o.op = .load ty x)
    (g : Nat) (hx : a.eval x = .pointer (some ⟨g, 0, none⟩)) (cs : Array Value) (hC : ∀ w', C w' → (loadVar ty ⟨g, 0, none⟩).run Tryd.prog w' = .ok (.agg cs) w')
    (h : wpQuiet Tryd.prog ops C Q rest (a.put o.dst (.agg cs))) : wpQuiet Tryd.prog ops C Q (o :: rest) a := by
  unfold wpQuiet
  rw [if_pos hw]
  refine ⟨.agg cs, fun w' hw' => ?_, h⟩
  unfold Oper.quietAt execOp
  simp only [ho, hx, Instr.loadAt, Instr.sureAddr, Sem.run_bind, Sem.run_pure, Result.andThen_ok, hC w' hw']
  exact ⟨rfl, rfl⟩
theorem q_zero {ops : Array Oper} {C : World → Prop} {Q : Act → Prop} {a : Act} {o : Oper} {rest : List Oper} (hw : Region.wanted o (yielded ops a.tmps) = true) (ho : o.op = .build 26 #[])
    (h : wpQuiet Tryd.prog ops C Q rest (a.put o.dst (.agg (bc bz (.slice none 0 0))))) : wpQuiet Tryd.prog ops C Q (o :: rest) a := by
  unfold wpQuiet
  rw [if_pos hw]
  refine ⟨.agg (bc bz (.slice none 0 0)), fun w' hw' => ?_, h⟩
  have hr := run_build (P := Tryd.prog) w' 26 #[] _ built_bz
  unfold Oper.quietAt execOp
  simp only [ho, List.map_toArray, List.map_nil, hr, Sem.run_bind, Sem.run_pure, Result.andThen_ok]
  exact ⟨rfl, rfl⟩
theorem run_bk (b : BK) (u : Value) {w : World} {g : Nat} (h : w.heap[g]? = some (.cells (bc b u) 26 (0, 0))) : (loadVar 26 ⟨g, 0, none⟩).run Tryd.prog w = .ok (.agg (bc b u)) w :=
  run_loadVar_row w g _ _ (bc b u) _ _ h Tryd.underlying26 rfl (by rw [bc_size]; exact info_b)
theorem run_pk (p : PK) {w : World} {g : Nat} (h : w.heap[g]? = some (.cells (pc p) 82 (0, 0))) : (loadVar 82 ⟨g, 0, none⟩).run Tryd.prog w = .ok (.agg (pc p)) w :=
  run_loadVar_row w g _ _ (pc p) _ _ h Tryd.underlying82 rfl (by rw [pc_size]; exact info_p)
theorem pc_one : (pc p2).all (·.oneCell') = true := by kernel_rfl
attribute [local irreducible] Calls pc
set_option maxRecDepth 100000 in
set_option maxHeartbeats 8000000 in
theorem sanity_c (w : World) : Calls Tryd.prog 16 #[] w fun e w' => e = .returned (.bool true) ∧ Below w.heap.size w w' := by
  go_enter Tryd.func16, Tryd.ntmps16
  go_upto_region 8 with (go_at_call 43; refine (rep32 _).mono ?_; rintro e w1 ⟨rfl, hb1⟩)
  go_upto_region 9 with (first
    | (refine bld_b0 rfl (.const (.int .i64 2)) (.const (.string ⟨#[109]⟩)) (.tmp 37) rfl (some ⟨w1.heap.size + 1 + 1 + 1 + 1 + 1, 0, none⟩) 3 3 rfl rfl rfl ?_)
    | (refine st_new (bc b0 (.slice (some ⟨w1.heap.size + 1 + 1 + 1 + 1 + 1, 0, none⟩) 3 3)) 26 rfl (.tmp 6) (.tmp 38) rfl _ rfl (by simp) rfl (by rw [bc_size]; exact info_b) (by rw [bc_size]; rfl) (bc_one _ _ _ _) ?_))
  have hs := san_start w1
  have hbw : Below w.heap.size w (((((((w1.alloc (.cells (kc k1) 48)).alloc (.cells (kc k1) 48)).alloc (.cells #[.int .i64 2, .slice (some ⟨w1.heap.size + 1, 0, none⟩) 1 1] 37)).alloc (.cells (kc k4) 48)).alloc (.cells (kc k6) 48)).alloc (.cells (kflat [k1, k4, k6]).toArray 48)).alloc (.cells (bc b0 (.slice (some ⟨w1.heap.size + 1 + 1 + 1 + 1 + 1, 0, none⟩) 3 3)) 26)) := by
    have h0 := hb1.size
    exact ((((((hb1.alloc h0 _).alloc (by simp; omega) _).alloc (by simp; omega) _).alloc (by simp; omega) _).alloc (by simp; omega) _).alloc (by simp; omega) _).alloc (by simp; omega) _
  obtain ⟨W, hW⟩ : ∃ W, W = (((((((w1.alloc (.cells (kc k1) 48)).alloc (.cells (kc k1) 48)).alloc (.cells #[.int .i64 2, .slice (some ⟨w1.heap.size + 1, 0, none⟩) 1 1] 37)).alloc (.cells (kc k4) 48)).alloc (.cells (kc k6) 48)).alloc (.cells (kflat [k1, k4, k6]).toArray 48)).alloc (.cells (bc b0 (.slice (some ⟨w1.heap.size + 1 + 1 + 1 + 1 + 1, 0, none⟩) 3 3)) 26)) := ⟨_, rfl⟩
  rw [← hW] at hs hbw
  unfold kc at hW
  change W = (((((((w1.alloc (.cells #[.int .i64 1, .int .i64 0, .string ⟨v32.toArray⟩, .int .i64 0, .int .i64 1, .int .i64 9, .int .i64 1, .int .i64 0, .bool false] 48)).alloc (.cells #[.int .i64 1, .int .i64 0, .string ⟨v32.toArray⟩, .int .i64 0, .int .i64 1, .int .i64 9, .int .i64 1, .int .i64 0, .bool false] 48)).alloc (.cells #[.int .i64 2, .slice (some ⟨w1.heap.size + 1, 0, none⟩) 1 1] 37)).alloc (.cells #[.int .i64 4, .int .i64 0, .string ⟨v32.toArray⟩, .int .i64 0, .int .i64 1, .int .i64 9, .int .i64 2, .int .i64 1, .bool false] 48)).alloc (.cells #[.int .i64 6, .int .i64 0, .string ⟨v32.toArray⟩, .int .i64 0, .int .i64 1, .int .i64 5, .int .i64 1, .int .i64 0, .bool false] 48)).alloc (.cells #[.int .i64 1, .int .i64 0, .string ⟨v32.toArray⟩, .int .i64 0, .int .i64 1, .int .i64 9, .int .i64 1, .int .i64 0, .bool false, .int .i64 4, .int .i64 0, .string ⟨v32.toArray⟩, .int .i64 0, .int .i64 1, .int .i64 9, .int .i64 2, .int .i64 1, .bool false, .int .i64 6, .int .i64 0, .string ⟨v32.toArray⟩, .int .i64 0, .int .i64 1, .int .i64 5, .int .i64 1, .int .i64 0, .bool false] 48)).alloc (.cells (bc b0 (.slice (some ⟨w1.heap.size + 1 + 1 + 1 + 1 + 1, 0, none⟩) 3 3)) 26)) at hW
  rw [← hW]
  generalize w1.heap.size = g at *
  clear hW hb1
  have HB := Lib.hid hbw
  have HS := Lib.hid hs
  have hlt := hs.lt
  obtain ⟨t0, t1, f0, f1, f2, f3, f4, f5, f6, f7, f8⟩ := hs.cells
  clear hs hbw
  go_upto_region 12 with (first
    | (refine ld_bk b0 _ rfl (.tmp 6) rfl _ rfl _ HS.out.bb ?_)
    | (go_at_call 17; refine (ex_plan1 _ _ _ HS.out.t HS.out.b).mono ?_; rintro e wa ⟨a, c, a2, c2, rfl, hu, hl, hb⟩; replace HB := Lib.hid (HB.out.trans (hb.mono HB.out.size)); replace HS := Lib.hid (HS.out.on hb); have HU := Lib.hid hu; have HL := Lib.hid hl; clear t0 t1 f0 f1 f2 f3 f4 f5 f6 f7 f8 hlt hu hl hb))
  have hla := HS.out.lt
  have HS2 : Hid (SanW (wa.alloc (.cells #[.int .i64 3, .slice a 2 c] 37)) g) := Lib.hid (HS.out.on ((Below.refl _ _).alloc (Nat.le_refl _) _))
  have HT7 : Hid ((wa.alloc (.cells #[.int .i64 3, .slice a 2 c] 37)).heap[wa.heap.size]? = some (.cells #[.int .i64 3, .slice a 2 c] 37 (0, 0))) := Lib.hid (heap_alloc_new _ _)
  replace HU := Lib.hid (HU.out.alloc (.cells #[.int .i64 3, .slice a 2 c] 37))
  replace HL := Lib.hid (HL.out.alloc (.cells #[.int .i64 3, .slice a 2 c] 37))
  replace HB := Lib.hid (HB.out.alloc HB.out.size (.cells #[.int .i64 3, .slice a 2 c] 37))
  go_upto_region 13 with (first
    | (refine ld_bk b0 _ rfl (.tmp 6) rfl _ rfl _ HS2.out.bb ?_)
    | (go_at_call 17; refine (ex_plan2 _ _ _ HU.out HS2.out.b).mono ?_; rintro e wb ⟨a3, c3, a4, c4, rfl, hv, hb⟩; replace HB := Lib.hid (HB.out.trans (hb.mono HB.out.size)); replace HS := Lib.hid (HS2.out.on hb); replace HT7 := Lib.hid (row_on HT7.out hb); replace HU := Lib.hid (HU.out.on hb); replace HL := Lib.hid (HL.out.on hb); have HV := Lib.hid hv; have hlb := hb.size; simp only [World.size_alloc] at hlb; clear HS2 hv hb))
  have q0 : wb.cell? ⟨wa.heap.size, 0, none⟩ = some (.int .i64 3) := cell_of_row _ _ _ _ _ _ HT7.out
  have q1 : wb.cell? ⟨wa.heap.size, 1, none⟩ = some (.slice a 2 c) := cell_of_row _ _ _ _ _ _ HT7.out
  obtain ⟨t0, t1, f0, f1, f2, f3, f4, f5, f6, f7, f8⟩ := HS.out.cells
  have l1 : wa.heap.size < wb.heap.size := by omega
  have l2 : g + 1 + 1 < wb.heap.size := by omega
  have l3 : g + 1 + 1 + 1 < wb.heap.size := by omega
  have HX0 : Hid (∀ w', Below (wb.alloc (.cells #[.int .i64 3, .slice a3 2 c3] 37)).heap.size (wb.alloc (.cells #[.int .i64 3, .slice a3 2 c3] 37)) w' → SanW w' g ∧ w'.heap[wa.heap.size]? = some (.cells #[.int .i64 3, .slice a 2 c] 37 (0, 0)) ∧ RdK w' (.slice a 2 c) [k1, k2] ∧ RdI w' (.slice a2 1 c2) [2] ∧
      w'.heap[wb.heap.size]? = some (.cells #[.int .i64 3, .slice a3 2 c3] 37 (0, 0)) ∧ RdK w' (.slice a3 2 c3) [k1, k2] ∧ Below w.heap.size w w') :=
    Lib.hid (fun w' h => ⟨(HS.out.on ((Below.refl _ _).alloc (Nat.le_refl _) _)).on h, row_on (row_on HT7.out ((Below.refl _ _).alloc (Nat.le_refl _) _)) h, (HU.out.alloc _).on h, (HL.out.alloc _).on h, row_on (heap_alloc_new _ _) h, (HV.out.alloc _).on h, (HB.out.alloc HB.out.size _).trans (h.mono (HB.out.alloc HB.out.size _).size)⟩)
  have tok1 : True := trivial
  go_upto_region 15 with (first
    | (go_at_call 19; clear tok1; refine (ex_twin1 _ _ (HU.out.alloc _)).mono ?_; rintro e wc ⟨rfl, hb⟩; have hlc := hb.size; simp only [World.size_alloc] at hlc; have HBC := Lib.hid hb; obtain ⟨xs, _, _, _, _, _, _⟩ := HX0.out _ hb; clear t0 t1 f0 f1 f2 f3 f4 f5 f6 f7 f8 hb; obtain ⟨t0, t1, f0, f1, f2, f3, f4, f5, f6, f7, f8⟩ := xs.cells; have XS := Lib.hid xs; clear xs)
    | (go_at_call 19; refine (ex_twin2 _ _ XS.out.t).mono ?_; rintro e wd ⟨rfl, hb⟩; have hld := hb.size; have HBD := Lib.hid (HBC.out.trans (hb.mono HBC.out.size)); obtain ⟨xs, _, _, _, _, _, _⟩ := HX0.out _ HBD.out; clear t0 t1 f0 f1 f2 f3 f4 f5 f6 f7 f8 hb; obtain ⟨t0, t1, f0, f1, f2, f3, f4, f5, f6, f7, f8⟩ := xs.cells; clear xs))
  go_upto_region 18 with (first
    | (refine kbld_1 82 3 (.int .i64 2) (pc p2) built_p2 rfl (.const (.int .i64 2)) rfl rfl ?_)
    | (refine st_new (pc p2) 82 rfl (.tmp 18) (.tmp 80) rfl _ rfl (by simp) rfl (by rw [pc_size]; exact info_p) (by rw [pc_size]; rfl) pc_one ?_))
  obtain ⟨xs, x1, x2, x3, x4, x5, x6⟩ := HX0.out _ HBD.out
  have hx : SanX ((wd.alloc (.cells (kc k2) 48)).alloc (.cells (pc p2) 82)) g wa.heap.size wb.heap.size wd.heap.size (wd.heap.size + 1) a a2 a3 c c2 c3 := by
    have hb2 : Below wd.heap.size wd ((wd.alloc (.cells (kc k2) 48)).alloc (.cells (pc p2) 82)) := ((Below.refl _ _).alloc (Nat.le_refl _) _).alloc (by simp) _
    have hn := heap_alloc_new (wd.alloc (.cells (kc k2) 48)) (.cells (pc p2) 82)
    rw [World.size_alloc] at hn
    exact ⟨xs.on hb2, row_on x1 hb2, x2.on hb2, x3.on hb2, row_on x4 hb2, x5.on hb2, (KeyAt.new wd k2).on ((Below.refl _ _).alloc (Nat.le_refl _) _), hn⟩
  have hbx : Below w.heap.size w ((wd.alloc (.cells (kc k2) 48)).alloc (.cells (pc p2) 82)) := (x6.alloc x6.size _).alloc (by have := x6.size; simp; omega) _
  obtain ⟨W, hW⟩ : ∃ W, W = (wd.alloc (.cells #[.int .i64 2, .int .i64 0, .string ⟨v32.toArray⟩, .int .i64 0, .int .i64 1, .int .i64 9, .int .i64 2, .int .i64 1, .bool false] 48)).alloc (.cells (pc p2) 82) := ⟨_, rfl⟩
  change SanX ((wd.alloc (.cells #[.int .i64 2, .int .i64 0, .string ⟨v32.toArray⟩, .int .i64 0, .int .i64 1, .int .i64 9, .int .i64 2, .int .i64 1, .bool false] 48)).alloc (.cells (pc p2) 82)) _ _ _ _ _ _ _ _ _ _ _ at hx
  change Below w.heap.size w ((wd.alloc (.cells #[.int .i64 2, .int .i64 0, .string ⟨v32.toArray⟩, .int .i64 0, .int .i64 1, .int .i64 9, .int .i64 2, .int .i64 1, .bool false] 48)).alloc (.cells (pc p2) 82)) at hbx
  rw [← hW] at hx hbx ⊢
  have X := Lib.hid hx
  replace HB := Lib.hid hbx
  clear hW hx hbx xs x1 x2 x3 x4 x5 x6 t0 t1 f0 f1 f2 f3 f4 f5 f6 f7 f8 q0 q1 HX0 HBD HBC XS HS HT7 HU HL HV hld hlc hlb l1 l2 l3 hla
  generalize wa.heap.size = ga at *
  generalize wb.heap.size = gb at *
  generalize wd.heap.size = gd at *
  obtain ⟨ub, uoff, rfl, lub, _⟩ := X.out.u.cells (by decide)
  obtain ⟨lb, loff, rfl, llb, _⟩ := X.out.l.cells (by decide)
  have tokA : True := trivial
  go_upto_region 20 with (first
    | (refine kbld_1 82 3 (.int .i64 3) (pc p3) built_p3 rfl (.const (.int .i64 3)) rfl rfl ?_)
    | (refine kbld_1 23 0 (.int .u8 1) (drow [1]) built_d1 rfl (.const (.int .u8 1)) rfl rfl ?_)
    | (refine bld_2 82 3 1 (.int .i64 2) (.agg (drow [1])) (pc pd) built_pd rfl (.const (.int .i64 2)) (.tmp 84) rfl rfl rfl ?_)
    | (refine ld_bk b0 _ rfl (.tmp 6) rfl _ rfl _ X.out.s.bb ?_)
    | (go_at_call 44; clear tokA; refine (ex_admit p3 20 a1 _ _ X.out.s.b).mono ?_; rintro e w2 ⟨rfl, hb⟩; replace HB := Lib.hid (HB.out.trans (hb.mono HB.out.size)); replace X := Lib.hid (X.out.on hb); clear hb)
    | (go_at_call 44; refine (ex_admit pd 10 Proofs.YtbpjdfnnlmblaaaDoor.a2 _ _ X.out.s.b).mono ?_; rintro e w3 ⟨rfl, hb⟩; replace HB := Lib.hid (HB.out.trans (hb.mono HB.out.size)); replace X := Lib.hid (X.out.on hb); clear hb))
  have lt := X.out.lts
  obtain ⟨lga, lgb, lg2, lgd, lge, lub, llb⟩ := lt
  obtain ⟨q0, q1, r0, r1, t0, t1, l0⟩ := X.out.cells; obtain ⟨m0, m1, m2, m3, m4, m5, m6, m7, m8⟩ := X.out.ukey; obtain ⟨n0, n1, n2, n3, n4, n5, n6, n7, n8⟩ := X.out.k.nine; simp only [Nat.zero_add] at n1 n2 n3 n4 n5 n6 n7 n8
  have tokH : True := trivial
  have tokI : True := trivial
  refine allL (by kernel_rfl) (by kernel_rfl) ?_
  simp only [List.append_eq, List.cons_append, List.nil_append]
  repeat (first
    | (refine kq_row rfl 26 (.tmp 6) rfl _ rfl (bc b0 (.slice (some ⟨g + 1 + 1 + 1 + 1 + 1, 0, none⟩) 3 3)) (fun w' ⟨u, e⟩ => by rw [e]; exact run_bk _ _ (X.out.on u.below).s.bb) ?_; simp only [Act.put, List.setIfInBounds_toArray, List.set_cons_zero, List.set_cons_succ])
    | (refine kq_row rfl 82 (.tmp 18) rfl _ rfl (pc p2) (fun w' ⟨u, e⟩ => by rw [e]; exact run_pk _ (X.out.on u.below).p) ?_; simp only [Act.put, List.setIfInBounds_toArray, List.set_cons_zero, List.set_cons_succ])
    | (refine q_zero rfl rfl ?_; simp only [Act.put, List.setIfInBounds_toArray, List.set_cons_zero, List.set_cons_succ])
    | go_big_quiet_step ((first
        | (go_at_call 45; exact Later.call _ (ex_same _ _ _ (X.out.on (Later.below _)).u (X.out.on (Later.below _)).v))
        | (go_at_call 21; exact Later.call _ (ex_holds 3 5 [k1, k2] true Proofs.YtbpjdfnnlmblaaaDoor.h1 _ _ _ (X.out.on (Later.below _)).u (X.out.on (Later.below _)).s.b))
        | (go_at_call 21; exact Later.call _ (ex_holds 2 5 [k1] false Proofs.YtbpjdfnnlmblaaaDoor.h2 _ _ _ (X.out.on (Later.below _)).s.t (X.out.on (Later.below _)).s.b))
        | (go_at_call 21; exact Later.call _ (ex_holds 2 9 [k1] true Proofs.YtbpjdfnnlmblaaaDoor.h3 _ _ _ (X.out.on (Later.below _)).s.t (X.out.on (Later.below _)).s.b))
        | (go_at_call 44; exact Later.call _ (ex_admit p2 0 Proofs.YtbpjdfnnlmblaaaDoor.a3 _ _ (X.out.on (Later.below _)).s.b))
        | (go_at_call 44; exact Later.call _ (ex_admz _)))))
  refine wpQuiet_nil ?_
  rintro _ ⟨u, rfl⟩
  have HF := Lib.hid (HB.out.trans (u.below.mono HB.out.size))
  go_wp2
  go_ret
  exact ⟨rfl, HF.out⟩
end Go.Proofs.YtbpjdfnnlmblaaaDoor
/- Two tables in their boxes; what RestoreBackup calls. -/
namespace Go.Proofs.YtbpjdfnnlmblaaaDoor
open Go.RowKit Go.Shelf
set_option linter.unusedSimpArgs false
set_option linter.unusedVariables false
structure TT36 (w W : World) (n : Int) (u : Value) (tl : List K) (m : Int) (v : Value) (dl : List K) : Prop where
  t : W.heap[w.heap.size]? = some (.cells #[.int .i64 n, u] 37 (0, 0))
  s : W.heap[w.heap.size + 1]? = some (.cells #[.int .i64 m, v] 37 (0, 0))
  r : RdK W u tl
  q : RdK W v dl
  k : KAt W
  bel : Below w.heap.size w W
theorem TT36.start {w : World} {n m : Int} {u v : Value} {tl dl : List K} (hr : RdK w u tl) (hq : RdK w v dl) (hk : KAt w) : TT36 w ((w.alloc (.cells #[.int .i64 n, u] 37)).alloc (.cells #[.int .i64 m, v] 37)) n u tl m v dl := by
  have hb : Below w.heap.size w ((w.alloc (.cells #[.int .i64 n, u] 37)).alloc (.cells #[.int .i64 m, v] 37)) := ((Below.refl _ _).alloc (Nat.le_refl _) _).alloc (by simp) _
  exact ⟨two_0 _ _ _, two_1 _ _ _, hr.on hb, hq.on hb, hk.on hb, hb⟩
theorem TT36.on {w W W' : World} {n m : Int} {u v : Value} {tl dl : List K} (h : TT36 w W n u tl m v dl) (hb : Below W.heap.size W W') : TT36 w W' n u tl m v dl :=
  ⟨row_keep h.t hb, row_keep h.s hb, h.r.on hb, h.q.on hb, h.k.on hb, h.bel.trans (hb.mono h.bel.size)⟩
theorem TT36.t0 {w W : World} {n m : Int} {u v : Value} {tl dl : List K} (h : TT36 w W n u tl m v dl) : W.cell? ⟨w.heap.size, 0, none⟩ = some (.int .i64 n) := cell_of_row _ _ _ _ _ _ h.t
theorem TT36.t1 {w W : World} {n m : Int} {u v : Value} {tl dl : List K} (h : TT36 w W n u tl m v dl) : W.cell? ⟨w.heap.size, 1, none⟩ = some u := cell_of_row _ _ _ _ _ _ h.t
theorem TT36.s0 {w W : World} {n m : Int} {u v : Value} {tl dl : List K} (h : TT36 w W n u tl m v dl) : W.cell? ⟨w.heap.size + 1, 0, none⟩ = some (.int .i64 m) := cell_of_row _ _ _ _ _ _ h.s
theorem TT36.s1 {w W : World} {n m : Int} {u v : Value} {tl dl : List K} (h : TT36 w W n u tl m v dl) : W.cell? ⟨w.heap.size + 1, 1, none⟩ = some v := cell_of_row _ _ _ _ _ _ h.s
theorem TT36.lt {w W : World} {n m : Int} {u v : Value} {tl dl : List K} (h : TT36 w W n u tl m v dl) : w.heap.size + 1 < W.heap.size := (Array.getElem?_eq_some_iff.1 h.s).1
theorem built_bR (now : Int) (p : Option Addr) (n c : Nat) : Tryd.prog.built 26 [(2, .int .i64 1), (4, .int .i64 now), (6, .string ⟨#[109]⟩), (7, .slice p n c)] = some (bc (bR now) (.slice p n c)) := by kernel_rfl
theorem bld_bR {ops : Array Oper} {rest : List Oper} {o : Oper} {a : Act} {w : World} {Q : Exit → Act → World → Prop} (hg : o.guard = none) (x0 x1 x2 x3 : Operand)
    (ho : o.op = .build 26 #[(2, x0), (4, x1), (6, x2), (7, x3)]) (now : Int)
    (p : Option Addr) (n c : Nat) (h0 : a.eval x0 = .int .i64 1) (h1 : a.eval x1 = .int .i64 now) (h2 : a.eval x2 = .string ⟨#[109]⟩) (h3 : a.eval x3 = .slice p n c)
    (h : wpList Tryd.prog ops Q rest (a.put o.dst (.agg (bc (bR now) (.slice p n c)))) w) : wpList Tryd.prog ops Q (o :: rest) a w := by
  have e : (Tryd.prog.built 26 ((#[(2, x0), (4, x1), (6, x2), (7, x3)] : Array (Nat × Operand)).map fun (i, x) => (i, a.eval x)).toList) = some (bc (bR now) (.slice p n c)) := by
    simp only [List.map_toArray, List.map_cons, List.map_nil, h0, h1, h2, h3]
    exact built_bR now p n c
  refine wpList_build hg 26 _ ho (by rw [e]; rfl) ?_
  rw [e]
  exact h
theorem few_z (n : Int) (v : Value) (l : List K) (w : World) (hv : RdK w v l) :
    Calls Tryd.prog 15 #[.agg #[.int .i64 n, v], .agg (bc zB nilS)] w fun e w' => e = .returned (.bool (decide (l.length ≤ 40))) ∧ Below w.heap.size w w' := by
  have h := few_k n v nilS l [] zB w hv (rdK_nil w)
  have e : (decide (l.length ≤ 40) && (decide (([] : List K).length ≤ 40) && decide (zB.mo.length ≤ 100))) = decide (l.length ≤ 40) := by
    rw [show decide (([] : List K).length ≤ 40) = true from rfl, show decide (zB.mo.length ≤ 100) = true from rfl]
    simp
  rw [e] at h
  exact h
theorem mem_selK {now : Int} {l : List K} {k : K} : k ∈ selK now l ↔ k ∈ l ∧ liveK now k = true := List.mem_filter
end Go.Proofs.YtbpjdfnnlmblaaaDoor
