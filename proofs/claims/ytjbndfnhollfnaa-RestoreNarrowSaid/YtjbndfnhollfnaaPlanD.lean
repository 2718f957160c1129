/- The specification's Plan. -/
import Derived.Test.YtjbndfnhollfnaaPlanC
namespace Go.Proofs.Ytjbndfnhollfnaa
open Go.RowKit Go.Shelf
set_option linter.unusedSimpArgs false
set_option linter.unusedVariables false
theorem plRun_nil (now : Int) (s : PS) (l : List K) : plRun now s (l.take 0) = .ok s := by rw [List.take_zero]; rfl
theorem pl_set1 {w : World} {G : Nat} {n : Int} {v v' vi : Value} (h : w.heap[G]? = some (.cells (pl n v vi 0) 41 (0, 0))) :
    (w.setCell ⟨G, 1, none⟩ v').heap[G]? = some (.cells (pl n v' vi 0) 41 (0, 0)) := by
  have h1 := setRow_heap w G _ ((pl n v vi 0).setIfInBounds 1 v') _ _ h
  rw [← setCell_rowK _ _ _ _ _ _ _ h] at h1
  exact h1
/-- the pair at a place -/
def pairAt (l : List (Int × Int)) (j : Nat) : Int × Int := l.getD j (0, 0)
theorem pairAt_eq (l : List (Int × Int)) (j : Nat) (h : j < l.length) : pairAt l j = l[j] := by simp [pairAt, h]
theorem lookP_take (ps : List (Int × Int)) (x : Int) (j : Nat) (h : j < ps.length) : lookP (ps.take (j + 1)) x = if (pairAt ps j).1 = x then (pairAt ps j).2 else lookP (ps.take j) x := by
  rw [List.take_succ_eq_append_getElem h, lookP_snoc, pairAt_eq ps j h]
theorem RdP_cells {w : World} {a : Option Addr} {n cap : Nat} {l : List (Int × Int)} (h : RdE eP w (.slice a n cap) l) (h0 : 0 < l.length) : ∃ b off, a = some ⟨b, off, none⟩ ∧ b < w.heap.size ∧
    ∀ j, j < l.length → w.cell? ⟨b, off + j * 2, none⟩ = some (.int .i64 (pairAt l j).1) ∧ w.cell? ⟨b, off + j * 2 + 1, none⟩ = some (.int .i64 (pairAt l j).2) := by
  obtain ⟨b, off, e, hlt, hc⟩ := h.cell eP_ok h0
  refine ⟨b, off, e, hlt, fun j hj => ?_⟩
  rw [pairAt_eq l j hj]
  exact ⟨hc j hj 0 (by decide), hc j hj 1 (by decide)⟩
theorem plStep_three (now : Int) (s : PS) (x : K) : (x.fin ≤ now ∧ plStep now s x = .ok s) ∨ (¬ x.fin ≤ now ∧ twinIs s.ks x = true ∧ plStep now s x = .ok (plTwin s x)) ∨
    (¬ x.fin ≤ now ∧ twinIs s.ks x = false ∧ ((addErr s.nx s.ks (newK s x) ≠ 0 ∧ plStep now s x = .error (addErr s.nx s.ks (newK s x))) ∨ (addErr s.nx s.ks (newK s x) = 0 ∧ plStep now s x = .ok (plAdd s x)))) := by
  rcases plStep_parts now s x with h | h | ⟨a, b, c⟩ | ⟨a, b, c⟩
  · exact .inl h
  · exact .inr (.inl h)
  · exact .inr (.inr ⟨a, b, .inl c⟩)
  · exact .inr (.inr ⟨a, b, .inr c⟩)
theorem kat_par {w : World} {B : Nat} {k : K} (h : KAt w B k) (n : Int) : KAt (w.setCell ⟨B, 7, none⟩ (.int .i64 n)) B (withPar k n) := by
  unfold KAt at *
  rw [setCell_rowK w B 7 _ _ _ _ h, setRow_heap _ _ _ _ _ _ h]
  rfl
theorem KAt.grown {w w' : World} {B : Nat} {k : K} {row : Option Nat} (h : KAt w B k) (hg : w.grownBy w' row) (hne : ∀ g, row = some g → g ≠ B) : KAt w' B k := by
  unfold KAt
  rw [grown_block hg h.lt hne]
  exact h
theorem OwnK.form {w : World} {base : Nat} {v : Value} {l : List K} (h : OwnK w base v l) : ∃ a n c, v = .slice a n c := by
  rcases h.2 with ⟨rfl, _⟩ | ⟨g, cap, cur, rfl, _⟩
  · exact ⟨_, _, _, rfl⟩
  · exact ⟨_, _, _, rfl⟩
theorem OwnE.form {α : Type} {E : El α} {w : World} {base : Nat} {v : Value} {l : List α} (h : OwnE E w base v l) : ∃ a n c, v = .slice a n c := by
  rcases h.2 with ⟨rfl, _⟩ | ⟨g, cap, cur, rfl, _⟩
  · exact ⟨_, _, _, rfl⟩
  · exact ⟨_, _, _, rfl⟩
theorem Good.wrap {nx : Int} {tl bl : List K} {now : Int} {s : PS} (h : Good nx tl bl now s) : IntKind.i64.wrap (s.nx + 1) = s.nx + 1 := by
  obtain ⟨_, h1, h2, _⟩ := (validTab_iff _ _).1 h.tab
  rw [IntKind.wrap_i64]
  omega
attribute [local irreducible] Calls validB planK plRun
theorem planR_ok {w w' : World} {s : PS} {e : Ending} {v vi : Value} {r : Except Int PS} (hr : r = .ok s) (he : e = .returned (.agg (pl s.nx v vi 0))) (h1 : RdK w' v s.ks) (h2 : RdI w' vi s.ids) (hb : Below w.heap.size w w') : PlanR w r e w' := by
  subst hr
  exact ⟨hb, v, vi, he, h1, h2⟩
theorem planR_no {w w' : World} {c : Int} {e : Ending} {r : Except Int PS} (hr : r = .error c) (he : e = .returned (.agg (pl 0 (.slice none 0 0) (.slice none 0 0) c))) (hb : Below w.heap.size w w') : PlanR w r e w' := by
  subst hr
  exact ⟨hb, he⟩
attribute [local irreducible] PlanR
set_option maxRecDepth 100000 in
set_option maxHeartbeats 8000000 in
theorem plan_ry (nx now : Int) (v u : Value) (tl bl : List K) (b : BK) (w : World) (hv : RdK w v tl) (hu : RdK w u bl) (htl : tl.length ≤ 1000) (hbl : bl.length ≤ 40) (htab : validTab nx tl = true)
    (hvb : validB b bl = true) (h0 : ¬ now < 0) (h1 : ¬ 1099511627776 < now) :
    Calls Try.prog 11 #[.agg #[.int .i64 nx, v], .agg (bc b u), .int .i64 now] w (PlanR w (plRun now ⟨nx, tl, [], []⟩ bl)) := by
  obtain ⟨W0, hW0⟩ : ∃ W0, W0 = ((w.alloc (.cells #[.int .i64 nx, v] 24)).alloc (.cells (bc b u) 28)).alloc (.cells #[.int .i64 0, .slice none 0 0, .slice none 0 0, .int .i64 0] 41) := ⟨_, rfl⟩
  have hval := validB_r b u bl W0 (by rw [hW0]; exact ((hu.alloc _).alloc _).alloc _)
  have HB0 := Lib.hid (ld_bk2 (w := w) b u (.cells #[.int .i64 nx, v] 24) (.cells #[.int .i64 0, .slice none 0 0, .slice none 0 0, .int .i64 0] 41))
  have hbx : ∀ w1, Below W0.heap.size W0 w1 → w1.cell? ⟨w.heap.size, 0, none⟩ = some (.int .i64 nx) ∧ w1.cell? ⟨w.heap.size, 1, none⟩ = some v ∧ w1.cell? ⟨w.heap.size + 1, 37, none⟩ = some u ∧
      w1.heap[w.heap.size + 1 + 1]? = some (.cells #[.int .i64 0, .slice none 0 0, .slice none 0 0, .int .i64 0] 41 (0, 0)) ∧ Below w.heap.size w w1 := by
    intro w1 h
    rw [hW0] at h
    have h1 : Below ((w.alloc (.cells #[.int .i64 nx, v] 24)).alloc (.cells (bc b u) 28)).heap.size ((w.alloc (.cells #[.int .i64 nx, v] 24)).alloc (.cells (bc b u) 28)) w1 := below1 _ _ h
    exact ⟨boxed2 _ _ _ _ h1 0, boxed2 _ _ _ _ h1 1, (boxed2' _ _ _ _ h1 37).trans (bc_37 b u), by rw [h.block _ (by simp)]; exact heap3_2' _ _ _ _, below3 _ _ _ _ h⟩
  have HBX := Lib.hid hbx
  have hszW : w.heap.size + 1 + 1 < W0.heap.size := by rw [hW0]; simp
  have HV : Hid (RdK W0 v tl) := Lib.hid (by rw [hW0]; exact ((hv.alloc _).alloc _).alloc _)
  have HU : Hid (RdK W0 u bl) := Lib.hid (by rw [hW0]; exact ((hu.alloc _).alloc _).alloc _)
  rw [hW0] at hval
  have HW := Lib.hid hW0
  have HGOOD := Lib.hid (Good.start nx tl bl now htab)
  rw [hvb] at hval
  have HVAL := Lib.hid hval
  have HTW := Lib.hid (fun (s : PS) (x : K) (vk : Value) (w' : World) (h : RdK w' vk s.ks) => twin_r s.nx vk s.ks x w' h)
  unfold kv kc at HTW
  have hulen := hu.len
  obtain ⟨a, cap, rfl, _, _, _⟩ := hv
  obtain ⟨a2, cap2, rfl, _, _, _⟩ := hu
  unfold maxLen at hulen
  clear hW0 hbx hval hvb htab
  go_enter Try.func11, Try.ntmps11
  go_wp2_with (first
    | (refine ld_bk b _ rfl (.tmp 4) rfl _ rfl _ HB0.out ?_)
    | (go_at_call 20; refine HVAL.out.mono ?_; rintro e w1 ⟨rfl, hb⟩; rw [← HW.out] at hb; obtain ⟨n0, n1, n37, hg, hbb⟩ := HBX.out _ hb; have HG := Lib.hid hg; have HBB := Lib.hid hbb; have HB1 := Lib.hid hb; have hb1s := hb.size; have z0 : w.heap.size < w1.heap.size := (by omega); have z1 : w.heap.size + 1 < w1.heap.size := (by omega); have z2 : w.heap.size + 1 + 1 < w1.heap.size := (by omega); clear hg hb hbb)
    | (at_builtin; refine app_k rfl (.tmp 36) (.tmp 38) rfl (w1.heap.size + 1) _ [] rfl (OwnK.nil _ _) _ tl rfl ((HV.out.on HB1.out).alloc _) (by simp; omega) (by simp) ?_; intro v1 w2 ho hb2; have hrd := ho.rd; obtain ⟨va, vcap, rfl, _, _, _⟩ := hrd; simp only [List.nil_append] at ho;
        have hr2 : w2.heap[w1.heap.size]? = some (.cells (pl nx (.slice none 0 0) (.slice none 0 0) 0) 41 (0, 0)) := (hb2.block _ (Nat.lt_succ_self _)).trans (heap_alloc_new _ _);
        have q1 : w2.cell? ⟨w1.heap.size, 1, none⟩ = some (.slice none 0 0) := cell_of_row _ _ _ _ _ _ hr2; have g1 := frow hr2 1; have HR2 := Lib.hid hr2; have HO := Lib.hid ho; have HB2 := Lib.hid hb2; have hb2s := hb2.size; clear hr2 ho hb2))
  go_loopw [9, 10] (fun vp o wr => ∃ (i : Nat) (s : PS) (vk vi : Value), i ≤ bl.length ∧ o = .int .i64 i ∧ Hid (plRun now ⟨nx, tl, [], []⟩ (bl.take i) = .ok s) ∧ Hid (PlW wr w1.heap.size s vk vi vp) ∧ Hid (Below W0.heap.size W0 wr)) (fun _ o _ => bl.length - (intOf o).toNat)
  case atStart =>
    exact ⟨0, ⟨nx, tl, [], []⟩, _, _, Nat.zero_le _, rfl, Lib.hid (plRun_nil _ _ _), Lib.hid ⟨pl_set1 HR2.out, HO.out.setNe (HO.out.neOld (Nat.lt_succ_self _)), OwnE.nil _ _, OwnE.nil _ _⟩,
      Lib.hid (((HB1.out.alloc hb1s _).trans (HB2.out.mono (by omega))).setCell (p := ⟨w1.heap.size, 1, none⟩) hb1s _)⟩
  case round =>
    obtain ⟨i, s, vk, vi, hi, rfl, hrun, hpl, hb⟩ := hrel
    obtain ⟨t0, t1, t37, hgr, hbb⟩ := HBX.out wr hb.out
    have hGlt : w1.heap.size < wr.heap.size := hpl.out.lt
    have hbs := hb.out.size
    have y0 : w.heap.size < wr.heap.size := by omega
    have y1 : w.heap.size + 1 < wr.heap.size := by omega
    have HGR := Lib.hid hgr
    have HBBr := Lib.hid hbb
    clear hgr hbb
    by_cases hlt : i < bl.length
    · obtain ⟨bb, off, rfl, hbl2, hrow⟩ := ((HU.out.on hb.out).cells) (by omega)
      obtain ⟨d0, d1, d2, d3, d4, d5, d6, d7, d8⟩ := hrow i hlt
      have i1 : (i : Int) < bl.length := by omega
      have hlen := plRun_len _ _ _ hrun.out
      rw [List.length_take] at hlen
      simp only [List.length_nil] at hlen
      have HLN : Hid (s.ps.length ≤ 40 ∧ s.ids.length ≤ 40 ∧ s.ks.length ≤ 1040) := Lib.hid (by omega)
      have hstep := plRun_take now _ s bl i hlt hrun.out
      have HFELL := Lib.hid (plRun_fell now _ s bl i hlt hrun.out)
      have HGS : Hid (Good nx tl bl now s) := Lib.hid (HGOOD.out.run _ (fun x hx => List.mem_of_mem_take hx) hrun.out)
      have HK := Lib.hid hlt
      have hr0 : wr.cell? ⟨w1.heap.size, 0, none⟩ = some (.int .i64 s.nx) := cell_of_row _ _ _ _ _ _ hpl.out.row
      have hr1 : wr.cell? ⟨w1.heap.size, 1, none⟩ = some vk := cell_of_row _ _ _ _ _ _ hpl.out.row
      have HX : Hid (∀ w3, Below (wr.alloc (.cells (kc (keyAt bl i)) 30)).heap.size (wr.alloc (.cells (kc (keyAt bl i)) 30)) w3 → PlW w3 w1.heap.size s vk vi u9 ∧ KAt w3 wr.heap.size (keyAt bl i) ∧ Below W0.heap.size W0 w3) :=
        Lib.hid (fun w3 h3 => ⟨(hpl.out.on ((Below.refl _ _).alloc (Nat.le_refl _) _)).on h3, (KAt.new wr (keyAt bl i)).on h3, hb.out.trans ((below1 _ _ h3).mono hbs)⟩)
      have hpw := hpl.out.k.rd
      clear hrow hlen hlt
      rcases plStep_three now s (keyAt bl i) with ⟨hf, hst⟩ | ⟨hf, ht, hst⟩ | ⟨hf, ht, hst⟩
      · rw [hst] at hstep
        have HS := Lib.hid hstep
        clear hst hstep
        obtain ⟨x1, _, x3⟩ := HX.out _ (Below.refl _ _)
        have X1 := Lib.hid x1
        have X3 := Lib.hid x3
        unfold kc at X1 X3
        clear x1 x3
        go_wp2
        go_roundw
        case rel => exact ⟨i + 1, s, vk, vi, HK.out, by go_num, HS, X1, X3⟩
        case measure => have := HK.out; simp [intOf]; omega
      · rw [hst] at hstep
        have HS := Lib.hid hstep
        have htw := HTW.out s (keyAt bl i) vk _ (hpw.alloc (.cells (kc (keyAt bl i)) 30))
        rw [ht] at htw
        have HT := Lib.hid htw
        unfold kc at HT HX
        clear hst hstep htw ht hpw
        go_wp2_with (first
          | (go_at_call 13; refine HT.out.mono ?_; rintro e w3 ⟨rfl, hb3⟩; obtain ⟨x1, x2, x3⟩ := HX.out _ hb3; have e0 : w3.cell? ⟨wr.heap.size, 0, none⟩ = some (.int .i64 (keyAt bl i).id) := x2.cell 0; have X1 := Lib.hid x1; have X3 := Lib.hid x3; have x3s := x3.size; have x1s := x1.lt; clear x1 x2 x3)
          | (at_builtin; refine app_e eP_ok rfl (.tmp 66) (.tmp 71) rfl (w1.heap.size + 1) u9 s.ps rfl (X1.out.p.on ((Below.refl _ _).alloc (Nat.le_refl _) _)) (.slice (some ⟨w3.heap.size, 0, none⟩) 1 1) [((keyAt bl i).id, twinId s.ks (keyAt bl i))] rfl (one_e w3 ((keyAt bl i).id, twinId s.ks (keyAt bl i)) eP_ok) (by have := HLN.out; simp; omega) (by simp; omega) ?_; intro u9' w4 hp' hg' hloc; have HP := Lib.hid hp'; have HG' := Lib.hid hg'; clear hp' hg' hloc))
        go_roundw
        case rel =>
          have q1 := X1.out.on ((Below.refl _ _).alloc (Nat.le_refl _) (.cells #[.int .i64 (keyAt bl i).id, .int .i64 (twinId s.ks (keyAt bl i))] 64))
          exact ⟨i + 1, _, vk, vi, HK.out, by go_num, HS, Lib.hid (q1.pair HG'.out HP.out), Lib.hid ((X3.out.alloc x3s _).trans ((q1.p.below HG'.out (by simp; omega)).mono (by omega)))⟩
        case measure => have := HK.out; simp [intOf]; omega
      · have hps := hpl.out.p.rd
        obtain ⟨ap, pcap, rfl, _, _, _⟩ := hps
        have HST := Lib.hid hst
        have HSTEP := Lib.hid hstep
        have htw := HTW.out s (keyAt bl i) vk _ (hpw.alloc (.cells (kc (keyAt bl i)) 30))
        rw [ht] at htw
        have HT := Lib.hid htw
        unfold kc at HT HX
        clear hst hstep htw ht hpw
        go_wp2_with (go_at_call 13; refine HT.out.mono ?_; rintro e w3 ⟨rfl, hb3⟩; obtain ⟨x1, x2, x3⟩ := HX.out _ hb3; have e0 : w3.cell? ⟨wr.heap.size, 0, none⟩ = some (.int .i64 (keyAt bl i).id) := x2.cell 0; have e7 : w3.cell? ⟨wr.heap.size, 7, none⟩ = some (.int .i64 (keyAt bl i).par) := x2.cell 7; have r0 : w3.cell? ⟨w1.heap.size, 0, none⟩ = some (.int .i64 s.nx) := cell_of_row _ _ _ _ _ _ x1.row; have X1 := Lib.hid x1; have X2 := Lib.hid x2; have X3 := Lib.hid x3; have x3s := x3.size; have x1s := x1.lt; have x2s := x2.lt; clear x1 x2 x3)
        have hps40 : s.ps.length ≤ 40 := HLN.out.1
        go_loopw [14, 15] (fun pa o wq => ∃ (j n : Nat), j ≤ s.ps.length ∧ o = .int .i64 j ∧ pa = .int .i64 (lookP (s.ps.take j) (keyAt bl i).par) ∧ wq = w3.drewN n) (fun _ o _ => s.ps.length - (intOf o).toNat)
        case atStart => exact ⟨0, 0, Nat.zero_le _, rfl, rfl, rfl⟩
        case round =>
          obtain ⟨j, n, hj, rfl, rfl, rfl⟩ := hrel
          by_cases hjl : j < s.ps.length
          · obtain ⟨pb, poff, rfl, hpb, hprow⟩ := RdP_cells X1.out.p.rd (by omega)
            obtain ⟨p0, p1⟩ := hprow j hjl
            have j1 : (j : Int) < s.ps.length := by omega
            have HJ := Lib.hid hjl
            have hlk := lookP_take s.ps (keyAt bl i).par j hjl
            clear hprow
            by_cases hq : (pairAt s.ps j).1 = (keyAt bl i).par
            · rw [if_pos hq] at hlk
              have q1 : ((pairAt s.ps j).1 == (keyAt bl i).par) = true := by rw [beq_iff_eq]; exact hq
              have HLK := Lib.hid hlk
              clear hq hlk
              go_wp2
              first | refine allD (by kernel_rfl) (by kernel_rfl) ?_ | refine all0 (by kernel_rfl) (by kernel_rfl) ?_
              repeat (go_big_quiet_step (fail))
              refine wpQuiet_nil ?_
              rintro _ ⟨nq, rfl⟩
              go_wp2
              go_roundw
              case rel => exact ⟨j + 1, nq, HJ.out, by go_num, by rw [HLK.out], rfl⟩
              case measure => have := HJ.out; simp [intOf]; omega
            · rw [if_neg hq] at hlk
              have q1 : ((pairAt s.ps j).1 == (keyAt bl i).par) = false := by rw [beq_eq_false_iff_ne]; exact hq
              have HLK := Lib.hid hlk
              clear hq hlk
              go_wp2
              first | refine allD (by kernel_rfl) (by kernel_rfl) ?_ | refine all0 (by kernel_rfl) (by kernel_rfl) ?_
              repeat (go_big_quiet_step (fail))
              refine wpQuiet_nil ?_
              rintro _ ⟨nq, rfl⟩
              go_wp2
              go_roundw
              case rel => exact ⟨j + 1, nq, HJ.out, by go_num, by rw [HLK.out], rfl⟩
              case measure => have := HJ.out; simp [intOf]; omega
          · obtain rfl : j = s.ps.length := by omega
            rw [List.take_length]
            have HNE := Lib.hid (hpl.out.k.neNew (Nat.le_refl _))
            have ng : w1.heap.size ≠ wr.heap.size := by omega
            have ng2 : wr.heap.size ≠ w1.heap.size := by omega
            go_wp2_with (at_builtin; refine app_e eP_ok rfl (.tmp 92) (.tmp 99) rfl (w1.heap.size + 1) _ s.ps rfl ((X1.out.p.on ((Below.refl _ _).alloc (Nat.le_refl _) _)).on (below_drewN n (Below.refl _ _))) (.slice (some ⟨w3.heap.size, 0, none⟩) 1 1) [((keyAt bl i).id, s.nx)] rfl ((one_e w3 ((keyAt bl i).id, s.nx) eP_ok).drew n) (by simp; omega) (by simp; omega) ?_; intro u9' w4 hp' hg' hloc; have hx4 := ((X1.out.on ((Below.refl _ _).alloc (Nat.le_refl _) _)).on (below_drewN n (Below.refl _ _))).pair hg' hp'; have hk4 := ((X2.out.on ((Below.refl _ _).alloc (Nat.le_refl _) (.cells #[.int .i64 (keyAt bl i).id, .int .i64 s.nx] 64))).on (below_drewN n (Below.refl _ _))).grown hg' (fun g hg e => by subst e; exact (X1.out.p.neType X2.out (by decide)) hg); have hb4 := (X3.out.alloc x3s (.cells #[.int .i64 (keyAt bl i).id, .int .i64 s.nx] 64)).trans ((below_drewN n (Below.refl W0.heap.size _)).trans ((((X1.out.p.on ((Below.refl _ _).alloc (Nat.le_refl _) _)).on (below_drewN n (Below.refl _ _))).below hg' (by simp; omega)).mono (by omega))); have X4 := Lib.hid hx4; have K4 := Lib.hid hk4; have B4 := Lib.hid hb4; have r0 : w4.cell? ⟨w1.heap.size, 0, none⟩ = some (.int .i64 s.nx) := cell_of_row _ _ _ _ _ _ hx4.row; have r1 : w4.cell? ⟨w1.heap.size, 1, none⟩ = some vk := cell_of_row _ _ _ _ _ _ hx4.row; obtain ⟨k0, k1, k2, k3, k4, k5, k6, k7, k8⟩ := hk4.nine; simp only [Nat.zero_add] at k1 k2 k3 k4 k5 k6 k7 k8; have kf := hk4.free 7; clear hp' hg' hloc hx4 hk4 hb4)
            have H5 : Hid (PlW (w4.setCell ⟨wr.heap.size, 7, none⟩ (.int .i64 (lookP s.ps (keyAt bl i).par))) w1.heap.size ⟨s.nx, s.ks, s.ps ++ [((keyAt bl i).id, s.nx)], s.ids⟩ vk vi u9') := Lib.hid (X4.out.setKey K4.out HNE.out)
            have B5 : Hid (Below W0.heap.size W0 (w4.setCell ⟨wr.heap.size, 7, none⟩ (.int .i64 (lookP s.ps (keyAt bl i).par)))) := Lib.hid (B4.out.setCell (p := ⟨wr.heap.size, 7, none⟩) hbs _)
            clear k0 k1 k2 k3 k4 k5 k6 k7 k8 kf r0 r1 hrun
            generalize hw5 : w4.setCell ⟨wr.heap.size, 7, none⟩ (.int .i64 (lookP s.ps (keyAt bl i).par)) = w5 at *
            clear hw5
            have b5s := B5.out.size
            have l5 := H5.out.lt
            rcases HST.out with ⟨he, hst⟩ | ⟨he, hst⟩
            · have hadd := add_rn s.nx vk s.ks (newK s (keyAt bl i)) w5 H5.out.k.rd he
              generalize addErr s.nx s.ks (newK s (keyAt bl i)) = er at *
              unfold kv kc at hadd
              dsimp only [newK, withPar] at hadd
              have e1 : (er == 0) = false := by rw [beq_eq_false_iff_ne]; exact he
              have e2 : (er != 0) = true := by rw [bne_iff_ne]; exact he
              have HFE := Lib.hid (HFELL.out er hst)
              clear he hst HST HSTEP
              refine hadd.mono ?_
              rintro e w6 ⟨rfl, hb6⟩
              have hb06 := B5.out.trans (hb6.mono b5s)
              obtain ⟨_, _, _, hg6, hbb6⟩ := HBX.out _ hb06
              have r0 : w6.cell? ⟨w.heap.size + 1 + 1, 0, none⟩ = some (.int .i64 0) := cell_of_row _ _ _ _ _ _ hg6
              have r1 : w6.cell? ⟨w.heap.size + 1 + 1, 1, none⟩ = some (.slice none 0 0) := cell_of_row _ _ _ _ _ _ hg6
              have r2 : w6.cell? ⟨w.heap.size + 1 + 1, 2, none⟩ = some (.slice none 0 0) := cell_of_row _ _ _ _ _ _ hg6
              have r3 : w6.cell? ⟨w.heap.size + 1 + 1, 3, none⟩ = some (.int .i64 0) := cell_of_row _ _ _ _ _ _ hg6
              have g0 := frow hg6 0
              have g1 := frow hg6 1
              have g2 := frow hg6 2
              have g3 := frow hg6 3
              have b6s := hb06.size
              have l6 : w.heap.size + 1 + 1 < w6.heap.size := by omega
              have HB6 := Lib.hid hbb6
              clear hg6 hbb6 hadd hb6 hb06
              go_wp2
              refine bodyPost_ret (v := .agg (pl 0 (.slice none 0 0) (.slice none 0 0) er)) (by simp [results, Try.results11, go_sem, r0, r1, r2, r3, pl, l6]) rfl (planR_no HFE.out rfl ?_)
              have hle : w.heap.size ≤ w.heap.size + 1 + 1 := by omega
              exact (((((HB6.out.setCell (p := ⟨w.heap.size + 1 + 1, 0, none⟩) hle _).setCell (p := ⟨w.heap.size + 1 + 1, 1, none⟩) hle _).setCell (p := ⟨w.heap.size + 1 + 1, 2, none⟩) hle _).setCell (p := ⟨w.heap.size + 1 + 1, 3, none⟩) hle _)).alloc (by simp only [setCell_size]; omega) _
            · have hadd := add_r s.nx vk s.ks (newK s (keyAt bl i)) w5 H5.out.k.rd he (by have := HLN.out; omega) HGS.out.wrap
              have HS : Hid (plRun now ⟨nx, tl, [], []⟩ (bl.take (i + 1)) = .ok (plAdd s (keyAt bl i))) := Lib.hid (HSTEP.out.trans hst)
              have hnk : withId (newK s (keyAt bl i)) s.nx = withId (newK s (keyAt bl i)) s.nx := rfl
              generalize hks : s.ks ++ [withId (newK s (keyAt bl i)) s.nx] = ks' at hadd
              have HKS := Lib.hid hks
              unfold kv kc ac at hadd
              dsimp only [newK, withPar] at hadd
              clear he hst HST HSTEP HFELL hnk hks
              refine hadd.mono ?_
              rintro e w6 ⟨vn, rfl, ho6, hb6⟩
              have H6 := Lib.hid (H5.out.on hb6)
              have ho6' := ho6.mono (Nat.succ_le_of_lt l5)
              obtain ⟨va6, ln6, vc6, rfl⟩ := ho6'.form
              have HO6 := Lib.hid ho6'
              have B6 := Lib.hid (B5.out.trans (hb6.mono b5s))
              have r0 : w6.cell? ⟨w1.heap.size, 0, none⟩ = some (.int .i64 s.nx) := cell_of_row _ _ _ _ _ _ H6.out.row
              have r1 : w6.cell? ⟨w1.heap.size, 1, none⟩ = some vk := cell_of_row _ _ _ _ _ _ H6.out.row
              have r2 : w6.cell? ⟨w1.heap.size, 2, none⟩ = some vi := cell_of_row _ _ _ _ _ _ H6.out.row
              have g0 := frow H6.out.row 0
              have g1 := frow H6.out.row 1
              have g2 := frow H6.out.row 2
              have b6s := B6.out.size
              have l6 : w1.heap.size < w6.heap.size := H6.out.lt
              clear ho6 ho6' hb6 hadd
              have H7 := Lib.hid (H6.out.table (n' := s.nx + 1) HO6.out)
              have B7 : Hid (Below W0.heap.size W0 ((w6.setCell ⟨w1.heap.size, 0, none⟩ (.int .i64 (s.nx + 1))).setCell ⟨w1.heap.size, 1, none⟩ (.slice va6 ln6 vc6))) := Lib.hid ((B6.out.setCell (p := ⟨w1.heap.size, 0, none⟩) hb1s _).setCell (p := ⟨w1.heap.size, 1, none⟩) hb1s _)
              have HONE : Hid (RdE eI ((((w6.setCell ⟨w1.heap.size, 0, none⟩ (.int .i64 (s.nx + 1))).setCell ⟨w1.heap.size, 1, none⟩ (.slice va6 ln6 vc6)).alloc (.cells #[.int .i64 (s.nx + 1), .slice va6 ln6 vc6, .int .i64 s.nx, .int .i64 0] 66)).alloc (.cells #[.int .i64 s.nx] 3)) (.slice (some ⟨w6.heap.size + 1, 0, none⟩) 1 1) [s.nx]) := Lib.hid (by
                have h := one_e (((w6.setCell ⟨w1.heap.size, 0, none⟩ (.int .i64 (s.nx + 1))).setCell ⟨w1.heap.size, 1, none⟩ (.slice va6 ln6 vc6)).alloc (.cells #[.int .i64 (s.nx + 1), .slice va6 ln6 vc6, .int .i64 s.nx, .int .i64 0] 66)) s.nx eI_ok
                rw [World.size_alloc, setCell_size, setCell_size] at h
                exact h)
              go_wp2_with (at_builtin; refine app_e eI_ok rfl (.tmp 117) (.tmp 120) rfl (w1.heap.size + 1) vi s.ids rfl ((H7.out.on ((Below.refl _ _).alloc (Nat.le_refl _) _)).on ((Below.refl _ _).alloc (Nat.le_refl _) _)).i (.slice (some ⟨w6.heap.size + 1, 0, none⟩) 1 1) [s.nx] rfl HONE.out (by have := HLN.out; simp; omega) (by simp [setCell_size]; omega) ?_; intro vi' w8 hi' hg' hloc; obtain ⟨vai, lni, vci, rfl⟩ := hi'.form; have HI := Lib.hid hi'; have HG' := Lib.hid hg'; have row8 := (((H7.out.on ((Below.refl _ _).alloc (Nat.le_refl _) _)).on ((Below.refl _ _).alloc (Nat.le_refl _) _)).id hg' hi'); have rw8 : w8.heap[w1.heap.size]? = some (.cells (pl (s.nx + 1) (.slice va6 ln6 vc6) vi 0) 41 (0, 0)) := (grown_block hg' (by simp [setCell_size]; omega) (fun k hk e => by have := (H7.out.i.lt k hk).1; omega)).trans (((H7.out.on ((Below.refl _ _).alloc (Nat.le_refl _) _)).on ((Below.refl _ _).alloc (Nat.le_refl _) _)).row); have q2 : w8.cell? ⟨w1.heap.size, 2, none⟩ = some vi := cell_of_row _ _ _ _ _ _ rw8; have f2 := frow rw8 2; have ROW8 := Lib.hid row8; clear hi' hg' hloc row8 rw8)
              go_roundw
              case rel => exact ⟨i + 1, _, _, _, HK.out, by go_num, HS, Lib.hid (by rw [← HKS.out] at ROW8; exact ROW8.out), Lib.hid (((((B7.out.alloc (by simp only [setCell_size]; omega) _).alloc (by simp only [World.size_alloc, setCell_size]; omega) _).trans ((((H7.out.on ((Below.refl _ _).alloc (Nat.le_refl _) _)).on ((Below.refl _ _).alloc (Nat.le_refl _) _)).i.below HG'.out (by simp [setCell_size]; omega)).mono (by omega)))).setCell (p := ⟨w1.heap.size, 2, none⟩) hb1s _)⟩
              case measure => have := HK.out; simp [intOf]; omega
    · have i1 : (bl.length : Int) ≤ i := by omega
      have hrun' := hrun.out
      rw [List.take_of_length_le (by omega)] at hrun'
      have HR := Lib.hid hrun'
      have r0 : wr.cell? ⟨w1.heap.size, 0, none⟩ = some (.int .i64 s.nx) := cell_of_row _ _ _ _ _ _ hpl.out.row
      have r1 : wr.cell? ⟨w1.heap.size, 1, none⟩ = some vk := cell_of_row _ _ _ _ _ _ hpl.out.row
      have r2 : wr.cell? ⟨w1.heap.size, 2, none⟩ = some vi := cell_of_row _ _ _ _ _ _ hpl.out.row
      have r3 : wr.cell? ⟨w1.heap.size, 3, none⟩ = some (.int .i64 0) := cell_of_row _ _ _ _ _ _ hpl.out.row
      have q0 : wr.cell? ⟨w.heap.size + 1 + 1, 0, none⟩ = some (.int .i64 0) := cell_of_row _ _ _ _ _ _ HGR.out
      have q1 : wr.cell? ⟨w.heap.size + 1 + 1, 1, none⟩ = some (.slice none 0 0) := cell_of_row _ _ _ _ _ _ HGR.out
      have q2 : wr.cell? ⟨w.heap.size + 1 + 1, 2, none⟩ = some (.slice none 0 0) := cell_of_row _ _ _ _ _ _ HGR.out
      have q3 : wr.cell? ⟨w.heap.size + 1 + 1, 3, none⟩ = some (.int .i64 0) := cell_of_row _ _ _ _ _ _ HGR.out
      have g0 := frow HGR.out 0
      have g1 := frow HGR.out 1
      have g2 := frow HGR.out 2
      have g3 := frow HGR.out 3
      obtain ⟨vka, vkn, vkc, rfl⟩ := hpl.out.k.form
      obtain ⟨via, vin, vic, rfl⟩ := hpl.out.i.form
      have lb : w.heap.size + 1 + 1 < w1.heap.size + 1 := by omega
      clear hrun hrun'
      go_wp2
      refine bodyPost_ret (v := .agg (pl s.nx (.slice vka vkn vkc) (.slice via vin vic) 0)) (by simp [results, Try.results11, go_sem, q0, q1, q2, q3, pl]) rfl (planR_ok HR.out rfl ?_ ?_ ?_)
      · exact ((((hpl.out.k.setNe (hpl.out.k.neOld lb)).setNe (hpl.out.k.neOld lb)).setNe (hpl.out.k.neOld lb)).setNe (hpl.out.k.neOld lb)).rd
      · exact rdI_of ((((hpl.out.i.setNe (hpl.out.i.neOld lb)).setNe (hpl.out.i.neOld lb)).setNe (hpl.out.i.neOld lb)).setNe (hpl.out.i.neOld lb)).rd
      · have hle : w.heap.size ≤ w.heap.size + 1 + 1 := by omega
        exact (((HBBr.out.setCell (p := ⟨w.heap.size + 1 + 1, 0, none⟩) hle _).setCell (p := ⟨w.heap.size + 1 + 1, 1, none⟩) hle _).setCell (p := ⟨w.heap.size + 1 + 1, 2, none⟩) hle _).setCell (p := ⟨w.heap.size + 1 + 1, 3, none⟩) hle _
end Go.Proofs.Ytjbndfnhollfnaa
