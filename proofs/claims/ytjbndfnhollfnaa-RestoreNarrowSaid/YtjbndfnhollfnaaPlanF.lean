/- The program's Plan. -/
import Derived.Test.YtjbndfnhollfnaaPlanE
namespace Go.Proofs.Ytjbndfnhollfnaa
open Go.RowKit Go.Shelf
set_option linter.unusedSimpArgs false
set_option linter.unusedVariables false
attribute [local irreducible] Calls validB planK plRun
set_option maxRecDepth 100000 in
set_option maxHeartbeats 2000000 in
theorem plan_cn (nx now : Int) (v u : Value) (tl bl : List K) (b : BK) (w : World) (hu : RdK w u bl) (hwf : ∀ i, i < bl.length → (keyAt bl i).wf) (hmo : b.mo.length ≤ maxLen) (he : validB b bl = false ∨ now < 0 ∨ 1099511627776 < now) :
    Calls Try.prog 10 #[.agg #[.int .i64 nx, v], .agg (bc b u), .int .i64 now] w fun e w' => e = .returned (.tuple #[.agg #[.int .i64 0, .slice none 0 0], .slice none 0 0, .int .i64 1]) ∧ Below w.heap.size w w' := by
  obtain ⟨W0, hW0⟩ : ∃ W0, W0 = ((w.alloc (.cells #[.int .i64 nx, v] 24)).alloc (.cells (bc b u) 28)).alloc (.cells #[.int .i64 0, .slice none 0 0] 24) := ⟨_, rfl⟩
  have hval := validB_c b u bl W0 (by rw [hW0]; exact ((hu.alloc _).alloc _).alloc _) hwf hmo
  have HB0 := Lib.hid (ld_bk2 (w := w) b u (.cells #[.int .i64 nx, v] 24) (.cells #[.int .i64 0, .slice none 0 0] 24))
  have hbx : ∀ w1, Below W0.heap.size W0 w1 → w1.heap[w.heap.size + 1 + 1]? = some (.cells #[.int .i64 0, .slice none 0 0] 24 (0, 0)) ∧ Below w.heap.size w w1 := by
    intro w1 h
    rw [hW0] at h
    exact ⟨by rw [h.block _ (by simp)]; exact heap3_2' _ _ _ _, below3 _ _ _ _ h⟩
  have HBX := Lib.hid hbx
  rw [hW0] at hval
  have HW := Lib.hid hW0
  clear hW0 hbx
  have ways : (validB b bl = false) ∨ (validB b bl = true ∧ now < 0) ∨ (validB b bl = true ∧ ¬ now < 0 ∧ 1099511627776 < now) := by
    cases hvv : validB b bl
    · exact .inl rfl
    · by_cases h : now < 0
      · exact .inr (.inl ⟨rfl, h⟩)
      · exact .inr (.inr ⟨rfl, h, by rw [hvv] at he; rcases he with h1 | h1 | h1 <;> first | cases h1 | omega⟩)
  clear he hwf
  rcases ways with h1 | ⟨h1, h2⟩ | ⟨h1, h2, h3⟩
  all_goals
    rw [h1] at hval
    have HVAL := Lib.hid hval
    clear hval h1
    go_enter Try.func10, Try.ntmps10
    go_wp2_with (first
      | (refine ld_bk b u rfl (.tmp 4) rfl _ rfl _ HB0.out ?_)
      | (go_at_call 24; refine HVAL.out.mono ?_; rintro e w1 ⟨rfl, hb⟩; rw [← HW.out] at hb; obtain ⟨hg, hbb⟩ := HBX.out _ hb; have r0 : w1.cell? ⟨w.heap.size + 1 + 1, 0, none⟩ = some (.int .i64 0) := cell_of_row _ _ _ _ _ _ hg; have r1 : w1.cell? ⟨w.heap.size + 1 + 1, 1, none⟩ = some (.slice none 0 0) := cell_of_row _ _ _ _ _ _ hg; have g0 := frow hg 0; have g1 := frow hg 1; have HBB := Lib.hid hbb; clear hg hb hbb))
    have hle : w.heap.size ≤ w.heap.size + 1 + 1 := by omega
    refine bodyPost_ret (v := .tuple #[.agg #[.int .i64 0, .slice none 0 0], .slice none 0 0, .int .i64 1]) (by simp [results, Try.results10, go_sem, r0, r1]) rfl ⟨rfl, ?_⟩
    exact (HBB.out.setCell (p := ⟨w.heap.size + 1 + 1, 0, none⟩) hle _).setCell (p := ⟨w.heap.size + 1 + 1, 1, none⟩) hle _
theorem pc_start {w w2 : World} {base : Nat} {b : BK} {u vk v0 : Value} {nx : Int} {tl : List K} (hbb : Below w.heap.size w w2) (hb : w.heap.size + 1 + 1 < base) (hs : base ≤ w2.heap.size) (ht : w2.heap[w.heap.size]? = some (.cells #[.int .i64 nx, v0] 24 (0, 0)))
    (hbk : w2.heap[w.heap.size + 1]? = some (.cells (bc b u) 28 (0, 0))) (hr : w2.heap[w.heap.size + 1 + 1]? = some (.cells #[.int .i64 0, .slice none 0 0] 24 (0, 0))) (hk : OwnK w2 base vk tl) :
    PcW w ((w2.setCell ⟨w.heap.size, 1, none⟩ vk).alloc (.map #[] 0)) base w2.heap.size b u ⟨nx, tl, [], []⟩ vk (.slice none 0 0) := by
  have h1 := setRow_heap w2 w.heap.size _ (#[Value.int .i64 nx, v0].setIfInBounds 1 vk) _ _ ht
  rw [← setCell_rowK _ _ _ _ _ _ _ ht] at h1
  have hold : ∀ g, g < w2.heap.size → ((w2.setCell ⟨w.heap.size, 1, none⟩ vk).alloc (.map #[] 0)).heap[g]? = (w2.setCell ⟨w.heap.size, 1, none⟩ vk).heap[g]? := fun g hg =>
    ((Below.refl (w2.setCell ⟨w.heap.size, 1, none⟩ vk).heap.size _).alloc (Nat.le_refl _) (.map #[] 0)).block _ (by rw [setCell_size]; exact hg)
  have hm := MapI.made (w2.setCell ⟨w.heap.size, 1, none⟩ vk)
  rw [setCell_size] at hm
  refine ⟨(hbb.setCell (p := ⟨w.heap.size, 1, none⟩) (Nat.le_refl _) _).alloc (by rw [setCell_size]; omega) _, hb, by rw [hold _ (by omega)]; exact h1, by rw [hold _ (by omega), setCell_block (by omega)]; exact hbk, by rw [hold _ (by omega), setCell_block (by omega)]; exact hr, ?_, OwnE.nil _ _, hm.eq rfl, hs⟩
  exact (hk.setNe (hk.neOld (by omega))).on ((Below.refl _ _).alloc (Nat.le_refl _) _)
attribute [local irreducible] PlanT
set_option maxRecDepth 100000 in
set_option maxHeartbeats 8000000 in
theorem plan_cy (nx now : Int) (v u : Value) (tl bl : List K) (b : BK) (w : World) (hv : RdK w v tl) (hu : RdK w u bl) (hwf : ∀ i, i < bl.length → (keyAt bl i).wf) (hmo : b.mo.length ≤ maxLen) (htl : tl.length ≤ 1000) (hbl : bl.length ≤ 40) (htab : validTab nx tl = true)
    (hvb : validB b bl = true) (h0 : ¬ now < 0) (h1 : ¬ 1099511627776 < now) :
    Calls Try.prog 10 #[.agg #[.int .i64 nx, v], .agg (bc b u), .int .i64 now] w (PlanT w (plRun now ⟨nx, tl, [], []⟩ bl)) := by
  obtain ⟨W0, hW0⟩ : ∃ W0, W0 = ((w.alloc (.cells #[.int .i64 nx, v] 24)).alloc (.cells (bc b u) 28)).alloc (.cells #[.int .i64 0, .slice none 0 0] 24) := ⟨_, rfl⟩
  have hval := validB_c b u bl W0 (by rw [hW0]; exact ((hu.alloc _).alloc _).alloc _) hwf hmo
  have HB0 := Lib.hid (ld_bk2 (w := w) b u (.cells #[.int .i64 nx, v] 24) (.cells #[.int .i64 0, .slice none 0 0] 24))
  have hbx : ∀ w1, Below W0.heap.size W0 w1 → w1.heap[w.heap.size]? = some (.cells #[.int .i64 nx, v] 24 (0, 0)) ∧ w1.heap[w.heap.size + 1]? = some (.cells (bc b u) 28 (0, 0)) ∧
      w1.heap[w.heap.size + 1 + 1]? = some (.cells #[.int .i64 0, .slice none 0 0] 24 (0, 0)) ∧ Below w.heap.size w w1 := by
    intro w1 h
    rw [hW0] at h
    exact ⟨by rw [h.block _ (by simp; omega)]; exact heap3_0 _ _ _ _, by rw [h.block _ (by simp)]; exact ld_bk2 _ _ _ _, by rw [h.block _ (by simp)]; exact heap3_2' _ _ _ _, below3 _ _ _ _ h⟩
  have HBX := Lib.hid hbx
  have hszW : w.heap.size + 1 + 1 < W0.heap.size := by rw [hW0]; simp
  have HV : Hid (RdK W0 v tl) := Lib.hid (by rw [hW0]; exact ((hv.alloc _).alloc _).alloc _)
  have HU : Hid (RdK w u bl) := Lib.hid hu
  have hcl := clone_k v tl
  rw [hW0] at hval
  have HW := Lib.hid hW0
  have HGOOD := Lib.hid (Good.start nx tl bl now htab)
  have HKEY := Lib.hid (fun i hi => validB_key hvb i hi)
  have HWF := Lib.hid hwf
  rw [hvb] at hval
  have HVAL := Lib.hid hval
  have HTW := Lib.hid (fun (s : PS) (x : K) (vk : Value) (w' : World) (h : RdK w' vk s.ks) => twin_c s.nx vk s.ks x w' h)
  unfold kv kc at HTW
  have hulen := hu.len
  obtain ⟨a, cap, rfl, _, _, _⟩ := hv
  obtain ⟨a2, cap2, rfl, _, _, _⟩ := hu
  unfold maxLen at hulen
  have HCL := Lib.hid hcl
  clear hW0 hbx hval hvb htab hwf hcl
  have hmm := @run_makeMap Try.prog
  go_enter Try.func10, Try.ntmps10
  go_wp2_with (first
    | (refine ld_bk b _ rfl (.tmp 4) rfl _ rfl _ HB0.out ?_)
    | (go_at_call 24; refine HVAL.out.mono ?_; rintro e w1 ⟨rfl, hb⟩; rw [← HW.out] at hb; obtain ⟨ht1, hb1, hr1, hbb⟩ := HBX.out _ hb; have t1 : w1.cell? ⟨w.heap.size, 1, none⟩ = some (.slice a tl.length cap) := cell_of_row _ _ _ _ _ _ ht1; have HBB := Lib.hid hbb; have HB1 := Lib.hid hb; have hb1s := hb.size; have z0 : w.heap.size < w1.heap.size := (by omega); have z2 : w.heap.size + 1 + 1 < w1.heap.size := (by omega); clear hb hbb ht1 hb1 hr1)
    | (go_at_call 25; refine (HCL.out _ (HV.out.on HB1.out) (by omega)).mono ?_; rintro e w2 ⟨v1, rfl, ho2, hb2⟩; obtain ⟨ht2, hb2', hr2, hbb2⟩ := HBX.out _ (HB1.out.trans (hb2.mono hb1s)); have t0 : w2.cell? ⟨w.heap.size, 0, none⟩ = some (.int .i64 nx) := cell_of_row _ _ _ _ _ _ ht2; have t1' : w2.cell? ⟨w.heap.size, 1, none⟩ = some (.slice a tl.length cap) := cell_of_row _ _ _ _ _ _ ht2; have g1 := frow ht2 1; have b37 : w2.cell? ⟨w.heap.size + 1, 37, none⟩ = some (.slice a2 bl.length cap2) := (cell_of_row _ _ _ _ _ _ hb2').trans (bc_37 b _); obtain ⟨va, ln, vc, rfl⟩ := ho2.form; have HO2 := Lib.hid ho2; have HT2 := Lib.hid ht2; have HB2 := Lib.hid hb2'; have HR2 := Lib.hid hr2; have HBB2 := Lib.hid hbb2; have hb2s := hb2.size; have y0 : w.heap.size < w2.heap.size := (by omega); have y1 : w.heap.size + 1 < w2.heap.size := (by omega); have yn : w.heap.size + 1 ≠ w.heap.size := (by omega); clear ht2 hb2' hr2 hbb2 ho2 hb2))
  skip
  go_loopw [10, 39] (fun vi o wr => ∃ (i : Nat) (s : PS) (vk : Value), i ≤ bl.length ∧ o = .int .i64 i ∧ Hid (plRun now ⟨nx, tl, [], []⟩ (bl.take i) = .ok s) ∧ Hid (PcW w wr w1.heap.size w2.heap.size b (.slice a2 bl.length cap2) s vk vi)) (fun _ o _ => bl.length - (intOf o).toNat)
  case atStart => exact ⟨0, ⟨nx, tl, [], []⟩, _, Nat.zero_le _, rfl, Lib.hid (plRun_nil _ _ _), Lib.hid (pc_start HBB2.out z2 hb2s HT2.out HB2.out HR2.out HO2.out)⟩
  case round =>
    obtain ⟨i, s, vk, hi, rfl, hrun, hpc⟩ := hrel
    have hlt3 := hpc.out.lt
    have y0 : w.heap.size < wr.heap.size := by omega
    have y1 : w.heap.size + 1 < wr.heap.size := by omega
    have n1 : w.heap.size ≠ wr.heap.size := by omega
    have n2 : wr.heap.size ≠ w.heap.size := by omega
    have r0 : wr.cell? ⟨w.heap.size, 0, none⟩ = some (.int .i64 s.nx) := cell_of_row _ _ _ _ _ _ hpc.out.t
    have r1 : wr.cell? ⟨w.heap.size, 1, none⟩ = some vk := cell_of_row _ _ _ _ _ _ hpc.out.t
    have hlen := plRun_len _ _ _ hrun.out
    rw [List.length_take] at hlen
    simp only [List.length_nil] at hlen
    have HLN : Hid (s.ps.length ≤ 40 ∧ s.ids.length ≤ 40 ∧ s.ks.length ≤ 1040) := Lib.hid (by omega)
    have HGS : Hid (Good nx tl bl now s) := Lib.hid (HGOOD.out.run _ (fun x hx => List.mem_of_mem_take hx) hrun.out)
    clear hlen
    by_cases hlt : i < bl.length
    · obtain ⟨bb, off, rfl, hbl2, hrow⟩ := ((HU.out.on hpc.out.bel).cells) (by omega)
      obtain ⟨d0, d1, d2, d3, d4, d5, d6, d7, d8⟩ := hrow i hlt
      have i1 : (i : Int) < bl.length := by omega
      have hstep := plRun_take now _ s bl i hlt hrun.out
      have HFELL := Lib.hid (plRun_fell now _ s bl i hlt hrun.out)
      have HK := Lib.hid hlt
      have HID : Hid (Wf (keyAt bl i).id) := Lib.hid (by have := HKEY.out i hlt; exact wf_of (by omega) (by omega))
      have HPAR : Hid (Wf (keyAt bl i).par) := Lib.hid (by have := validK_par (HKEY.out i hlt).1; exact wf_of (by omega) (by omega))
      have HX : Hid (∀ w3, Below (wr.alloc (.cells (kc (keyAt bl i)) 30)).heap.size (wr.alloc (.cells (kc (keyAt bl i)) 30)) w3 → PcW w w3 w1.heap.size w2.heap.size b (.slice (some ⟨bb, off, none⟩) bl.length cap2) s vk u10 ∧ KAt w3 wr.heap.size (keyAt bl i)) :=
        Lib.hid (fun w3 h3 => ⟨(hpc.out.on ((Below.refl _ _).alloc (Nat.le_refl _) _)).on h3, (KAt.new wr (keyAt bl i)).on h3⟩)
      have HNE := Lib.hid (hpc.out.k.neNew (Nat.le_refl _))
      have hpw := hpc.out.k.rd
      clear hrow hlt
      rcases plStep_three now s (keyAt bl i) with ⟨hf, hst⟩ | ⟨hf, ht, hst⟩ | ⟨hf, ht, hst⟩
      · rw [hst] at hstep
        have HS := Lib.hid hstep
        clear hst hstep
        have X1 := Lib.hid (HX.out _ (Below.refl _ _)).1
        unfold kc at X1
        go_wp2
        go_roundw
        case rel => exact ⟨i + 1, s, vk, HK.out, by go_num, HS, X1⟩
        case measure => have := HK.out; simp [intOf]; omega
      · rw [hst] at hstep
        have HS := Lib.hid hstep
        have HWT := Lib.hid (HGS.out.twin (keyAt bl i) ht)
        have htw := HTW.out s (keyAt bl i) vk _ (hpw.alloc (.cells (kc (keyAt bl i)) 30))
        rw [ht] at htw
        have HT := Lib.hid htw
        unfold kc at HT HX
        clear hst hstep htw ht hpw
        go_wp2_with (first
          | (go_at_call 12; refine HT.out.mono ?_; rintro e w3 ⟨rfl, hb3⟩; obtain ⟨x1, x2⟩ := HX.out _ hb3; have e0 : w3.cell? ⟨wr.heap.size, 0, none⟩ = some (.int .i64 (keyAt bl i).id) := x2.cell 0; have X1 := Lib.hid x1; clear x1 x2)
          | (refine put_i rfl (.tmp 54) (.tmp 56) (.tmp 57) rfl w2.heap.size s.ps.length _ rfl X1.out.m (by have := HLN.out; omega) (keyAt bl i).id (twinId s.ks (keyAt bl i)) rfl rfl HID.out HWT.out ?_; intro w4 hm4 hg4; have X4 := Lib.hid (X1.out.put (p := ((keyAt bl i).id, twinId s.ks (keyAt bl i))) hg4 hm4); clear hm4 hg4))
        go_roundw
        case rel => exact ⟨i + 1, _, vk, HK.out, by go_num, HS, X4⟩
        case measure => have := HK.out; simp [intOf]; omega
      · have HST := Lib.hid hst
        have HSTEP := Lib.hid hstep
        have htw := HTW.out s (keyAt bl i) vk _ (hpw.alloc (.cells (kc (keyAt bl i)) 30))
        rw [ht] at htw
        have HT := Lib.hid htw
        unfold kc at HT HX
        clear hst hstep htw ht hpw
        go_wp2_with (first
          | (go_at_call 12; refine HT.out.mono ?_; rintro e w3 ⟨rfl, hb3⟩; obtain ⟨x1, x2⟩ := HX.out _ hb3; have r0 : w3.cell? ⟨w.heap.size, 0, none⟩ = some (.int .i64 s.nx) := cell_of_row _ _ _ _ _ _ x1.t; have r1 : w3.cell? ⟨w.heap.size, 1, none⟩ = some vk := cell_of_row _ _ _ _ _ _ x1.t; obtain ⟨k0, k1, k2, k3, k4, k5, k6, k7, k8⟩ := x2.nine; simp only [Nat.zero_add] at k1 k2 k3 k4 k5 k6 k7 k8; have kf := x2.free 7; have X1 := Lib.hid x1; have X2 := Lib.hid x2; have x2s := x2.lt; clear x1 x2)
          | (refine look_i rfl (.tmp 60) (.tmp 62) rfl w2.heap.size s.ps.length _ rfl X1.out.m (keyAt bl i).par rfl HPAR.out ?_))
        have H5 : Hid (PcW w (w3.setCell ⟨wr.heap.size, 7, none⟩ (.int .i64 (lookP s.ps (keyAt bl i).par))) w1.heap.size w2.heap.size b (.slice (some ⟨bb, off, none⟩) bl.length cap2) s vk u10) := Lib.hid (X1.out.setKey X2.out hlt3 HNE.out)
        clear k0 k1 k2 k3 k4 k5 k6 k7 k8 kf r0 r1 hrun
        generalize hw5 : w3.setCell ⟨wr.heap.size, 7, none⟩ (.int .i64 (lookP s.ps (keyAt bl i).par)) = w5 at *
        clear hw5
        have l5 := H5.out.lt
        have hwfn : (newK s (keyAt bl i)).wf := ⟨(HWF.out i HK.out).id, (HWF.out i HK.out).uses⟩
        rcases HST.out with ⟨he, hst⟩ | ⟨he, hst⟩
        · have hadd := add_cn s.nx vk s.ks (newK s (keyAt bl i)) w5 H5.out.k.rd hwfn he
          generalize addErr s.nx s.ks (newK s (keyAt bl i)) = er at *
          unfold kv kc at hadd
          dsimp only [newK, withPar] at hadd
          have e1 : (er == 0) = false := by rw [beq_eq_false_iff_ne]; exact he
          have e2 : (er != 0) = true := by rw [bne_iff_ne]; exact he
          have HFE := Lib.hid (HFELL.out er hst)
          clear he hst HST HSTEP hwfn
          refine hadd.mono ?_
          rintro e w6 ⟨rfl, hb6⟩
          have H6 := Lib.hid (H5.out.on hb6)
          have q0 : w6.cell? ⟨w.heap.size + 1 + 1, 0, none⟩ = some (.int .i64 0) := cell_of_row _ _ _ _ _ _ H6.out.r
          have q1 : w6.cell? ⟨w.heap.size + 1 + 1, 1, none⟩ = some (.slice none 0 0) := cell_of_row _ _ _ _ _ _ H6.out.r
          have g0 := frow H6.out.r 0
          have g1 := frow H6.out.r 1
          have l6 := H6.out.lt
          have b6s := H6.out.bel.size
          clear hadd hb6
          go_wp2
          refine bodyPost_ret (v := .tuple #[.agg #[.int .i64 0, .slice none 0 0], .slice none 0 0, .int .i64 er]) (by simp [results, Try.results10, go_sem, q0, q1, l6]) rfl (planT_no HFE.out rfl ?_)
          have hle : w.heap.size ≤ w.heap.size + 1 + 1 := by omega
          exact ((H6.out.bel.setCell (p := ⟨w.heap.size + 1 + 1, 0, none⟩) hle _).setCell (p := ⟨w.heap.size + 1 + 1, 1, none⟩) hle _).alloc (by simp only [setCell_size]; omega) _
        · have hadd := add_c s.nx vk s.ks (newK s (keyAt bl i)) w5 H5.out.k.rd hwfn he (by have := HLN.out; omega) HGS.out.wrap
          have HS : Hid (plRun now ⟨nx, tl, [], []⟩ (bl.take (i + 1)) = .ok (plAdd s (keyAt bl i))) := Lib.hid (HSTEP.out.trans hst)
          generalize hks : s.ks ++ [withId (newK s (keyAt bl i)) s.nx] = ks' at hadd
          have HKS := Lib.hid hks
          have HNX : Hid (Wf s.nx) := Lib.hid (by have := HGS.out.nxb; exact wf_of (by omega) (by omega))
          unfold kv kc at hadd
          dsimp only [newK, withPar] at hadd
          clear he hst HST HSTEP HFELL hks hwfn
          refine hadd.mono ?_
          rintro e w6 ⟨vn, rfl, ho6, hb6⟩
          have H6 := Lib.hid (H5.out.on hb6)
          have hbs5 : w1.heap.size ≤ w5.heap.size := by have := H5.out.hM; have := H5.out.m.lt; omega
          have ho6' := ho6.mono hbs5
          obtain ⟨va6, ln6, vc6, rfl⟩ := ho6'.form
          have H7 := Lib.hid (H6.out.table (n' := s.nx + 1) ho6')
          have r0 : w6.cell? ⟨w.heap.size, 0, none⟩ = some (.int .i64 s.nx) := cell_of_row _ _ _ _ _ _ H6.out.t
          have r1 : w6.cell? ⟨w.heap.size, 1, none⟩ = some vk := cell_of_row _ _ _ _ _ _ H6.out.t
          have g0 := frow H6.out.t 0
          have g1 := frow H6.out.t 1
          have l6 : w.heap.size < w6.heap.size := by have := H6.out.lt; omega
          have b6s : w1.heap.size ≤ w6.heap.size := by have := hb6.size; omega
          clear ho6 ho6' hb6 hadd
          go_wp2_with (first
            | (refine put_i rfl (.tmp 76) (.tmp 77) (.tmp 79) rfl w2.heap.size s.ps.length _ rfl (H7.out.m.on ((Below.refl _ _).alloc (Nat.le_refl _) _)) (by have := HLN.out; omega) (keyAt bl i).id s.nx rfl rfl HID.out HNX.out ?_; intro w8 hm8 hg8; have H8 := Lib.hid ((H7.out.on ((Below.refl _ _).alloc (Nat.le_refl _) _)).put (p := ((keyAt bl i).id, s.nx)) hg8 hm8); have b8s := hg8.size; simp only [World.size_alloc, setCell_size] at b8s; clear hm8 hg8)
            | (at_builtin; refine app_e eI_ok rfl (.tmp 80) (.tmp 82) rfl w1.heap.size u10 s.ids rfl (H8.out.on ((Below.refl _ _).alloc (Nat.le_refl _) _)).i (.slice (some ⟨w8.heap.size, 0, none⟩) 1 1) [s.nx] rfl (one_e w8 s.nx eI_ok) (by have := HLN.out; simp; omega) (by simp; omega) ?_; intro vi' w9 hi' hg' hloc; have H9 := Lib.hid ((H8.out.on ((Below.refl _ _).alloc (Nat.le_refl _) _)).id hg' hi'); clear hi' hg' hloc))
          go_roundw
          case rel => exact ⟨i + 1, _, _, HK.out, by go_num, HS, Lib.hid (by rw [← HKS.out] at H9; exact H9.out)⟩
          case measure => have := HK.out; simp [intOf]; omega
    · have i1 : (bl.length : Int) ≤ i := by omega
      have hrun' := hrun.out
      rw [List.take_of_length_le (by omega)] at hrun'
      have HR := Lib.hid hrun'
      have q0 : wr.cell? ⟨w.heap.size + 1 + 1, 0, none⟩ = some (.int .i64 0) := cell_of_row _ _ _ _ _ _ hpc.out.r
      have q1 : wr.cell? ⟨w.heap.size + 1 + 1, 1, none⟩ = some (.slice none 0 0) := cell_of_row _ _ _ _ _ _ hpc.out.r
      have g0 := frow hpc.out.r 0
      have g1 := frow hpc.out.r 1
      obtain ⟨vka, vkn, vkc, rfl⟩ := hpc.out.k.form
      have lb : w.heap.size + 1 + 1 < w1.heap.size := z2
      clear hrun hrun'
      go_wp2
      refine bodyPost_ret (v := .tuple #[.agg #[.int .i64 s.nx, .slice vka vkn vkc], u10, .int .i64 0]) (by simp [results, Try.results10, go_sem, q0, q1]) rfl (planT_ok HR.out rfl ?_ ?_ ?_)
      · exact ((hpc.out.k.setNe (hpc.out.k.neOld lb)).setNe (hpc.out.k.neOld lb)).rd
      · exact rdI_of ((hpc.out.i.setNe (hpc.out.i.neOld lb)).setNe (hpc.out.i.neOld lb)).rd
      · have hle : w.heap.size ≤ w.heap.size + 1 + 1 := by omega
        exact (hpc.out.bel.setCell (p := ⟨w.heap.size + 1 + 1, 0, none⟩) hle _).setCell (p := ⟨w.heap.size + 1 + 1, 1, none⟩) hle _
end Go.Proofs.Ytjbndfnhollfnaa
