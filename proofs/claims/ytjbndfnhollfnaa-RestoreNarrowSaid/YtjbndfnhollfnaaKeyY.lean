/- The program's Add. -/
import Derived.Test.YtjbndfnhollfnaaKeyX
namespace Go.Proofs.Ytjbndfnhollfnaa
open Go.RowKit Go.Shelf
set_option linter.unusedSimpArgs false
set_option linter.unusedVariables false
attribute [local irreducible] Calls validK
set_option maxRecDepth 100000 in
set_option maxHeartbeats 2000000 in
theorem add_cn (nx : Int) (v : Value) (l : List K) (k : K) (w : World) (hv : RdK w v l) (hk : k.wf) (he : addErr nx l k ≠ 0) :
    Calls Try.prog 26 #[.agg #[.int .i64 nx, v], kv k] w fun e w' => e = .returned (.tuple #[.agg #[.int .i64 0, .slice none 0 0], .int .i64 0, .int .i64 (addErr nx l k)]) ∧ Below w.heap.size w w' := by
  have hval := fun w => valid_c k hk w
  obtain ⟨W0, hW0⟩ : ∃ W0, W0 = ((w.alloc (.cells #[.int .i64 nx, v] 24)).alloc (.cells (kc k) 30)).alloc (.cells #[.int .i64 0, .slice none 0 0] 24) := ⟨_, rfl⟩
  have hbx : ∀ w1, Below W0.heap.size W0 w1 → w1.cell? ⟨w.heap.size, 0, none⟩ = some (.int .i64 nx) ∧ w1.cell? ⟨w.heap.size, 1, none⟩ = some v ∧ w1.cell? ⟨w.heap.size + 1, 7, none⟩ = some (.int .i64 k.par) ∧
      w1.heap[w.heap.size + 1 + 1]? = some (.cells #[.int .i64 0, .slice none 0 0] 24 (0, 0)) ∧ Below w.heap.size w w1 := by
    intro w1 h
    rw [hW0] at h
    have h1 : Below ((w.alloc (.cells #[.int .i64 nx, v] 24)).alloc (.cells (kc k) 30)).heap.size ((w.alloc (.cells #[.int .i64 nx, v] 24)).alloc (.cells (kc k) 30)) w1 := below1 _ _ h
    exact ⟨boxed2 _ _ _ _ h1 0, boxed2 _ _ _ _ h1 1, boxed2' _ _ _ _ h1 7, by rw [h.block _ (by simp)]; exact heap3_2' _ _ _ _, below3 _ _ _ _ h⟩
  have HBX := Lib.hid hbx
  have HW := Lib.hid hW0
  obtain ⟨a, cap, rfl, _, _, _⟩ := hv
  clear hW0 hbx
  unfold kv kc at hval ⊢
  unfold kc at HW
  rcases addErr_parts nx l k with ⟨h1, hr⟩ | ⟨h1, h2, hr⟩ | ⟨h1, h2, h3, hr⟩ | ⟨h1, h2, h3, h4, hr⟩ | ⟨h1, h2, h3, h4, hr⟩
  case inr.inr.inr.inr => exact absurd hr he
  all_goals
    rw [h1] at hval
    rw [hr]
    clear h1 hr he
    go_enter Try.func26, Try.ntmps26
    go_wp2_with (go_at_call 40; refine (hval _).mono ?_; rintro e w1 ⟨rfl, hb⟩; rw [← HW.out] at hb; obtain ⟨n0, n1, p7, hg, hbb⟩ := HBX.out _ hb; have r0 : w1.cell? ⟨w.heap.size + 1 + 1, 0, none⟩ = some (.int .i64 0) := cell_of_row _ _ _ _ _ _ hg; have r1 : w1.cell? ⟨w.heap.size + 1 + 1, 1, none⟩ = some (.slice none 0 0) := cell_of_row _ _ _ _ _ _ hg; have g0 := frow hg 0; have g1 := frow hg 1; have HBB := Lib.hid hbb; clear hg hb hbb)
    have hle : w.heap.size ≤ w.heap.size + 1 + 1 := by omega
    refine bodyPost_ret (v := .tuple #[.agg #[.int .i64 0, .slice none 0 0], .int .i64 0, .int .i64 _]) (by simp [results, Try.results26, go_sem, r0, r1]) rfl ⟨rfl, ?_⟩
    exact (HBB.out.setCell (p := ⟨w.heap.size + 1 + 1, 0, none⟩) hle _).setCell (p := ⟨w.heap.size + 1 + 1, 1, none⟩) hle _
theorem RdK.clip {w : World} {a : Option Addr} {cap : Nat} {l : List K} (h : RdK w (.slice a l.length cap) l) : RdK w (.slice a l.length l.length) l := by
  obtain ⟨a', c', e, h1, h2, h3⟩ := h
  cases e
  exact ⟨a, l.length, rfl, Nat.le_refl _, by omega, h3⟩
set_option maxRecDepth 100000 in
set_option maxHeartbeats 2000000 in
theorem add_c (nx : Int) (v : Value) (l : List K) (k : K) (w : World) (hv : RdK w v l) (hk : k.wf) (he : addErr nx l k = 0) (hl : l.length ≤ 5000) (hnx : IntKind.i64.wrap (nx + 1) = nx + 1) :
    Calls Try.prog 26 #[.agg #[.int .i64 nx, v], kv k] w fun e w' => ∃ v', e = .returned (.tuple #[.agg #[.int .i64 (nx + 1), v'], .int .i64 nx, .int .i64 0]) ∧ OwnK w' w.heap.size v' (l ++ [withId k nx]) ∧ Below w.heap.size w w' := by
  have hval := fun w => valid_c k hk w
  obtain ⟨W0, hW0⟩ : ∃ W0, W0 = ((w.alloc (.cells #[.int .i64 nx, v] 24)).alloc (.cells (kc k) 30)).alloc (.cells #[.int .i64 0, .slice none 0 0] 24) := ⟨_, rfl⟩
  have hvw : RdK W0 v l := by rw [hW0]; exact ((hv.alloc _).alloc _).alloc _
  have hbx : ∀ w1, Below W0.heap.size W0 w1 → w1.cell? ⟨w.heap.size, 0, none⟩ = some (.int .i64 nx) ∧ w1.cell? ⟨w.heap.size, 1, none⟩ = some v ∧ KAt w1 (w.heap.size + 1) k ∧
      w1.heap[w.heap.size + 1 + 1]? = some (.cells #[.int .i64 0, .slice none 0 0] 24 (0, 0)) ∧ Below w.heap.size w w1 := by
    intro w1 h
    rw [hW0] at h
    have h1 : Below ((w.alloc (.cells #[.int .i64 nx, v] 24)).alloc (.cells (kc k) 30)).heap.size ((w.alloc (.cells #[.int .i64 nx, v] 24)).alloc (.cells (kc k) 30)) w1 := below1 _ _ h
    exact ⟨boxed2 _ _ _ _ h1 0, boxed2 _ _ _ _ h1 1, (kat2 w _ k).on h1, by rw [h.block _ (by simp)]; exact heap3_2' _ _ _ _, below3 _ _ _ _ h⟩
  have HBX := Lib.hid hbx
  have HW := Lib.hid hW0
  have HVW := Lib.hid hv
  have hszW : Hid (w.heap.size + 1 + 1 < W0.heap.size) := Lib.hid (by rw [hW0]; simp)
  obtain ⟨a, cap, rfl, hcap, hcapm, _⟩ := hv
  clear hW0 hbx hvw
  unfold kv kc at hval ⊢
  unfold kc at HW
  rcases addErr_parts nx l k with ⟨h1, hr⟩ | ⟨h1, h2, hr⟩ | ⟨h1, h2, h3, hr⟩ | ⟨h1, h2, h3, h4, hr⟩ | ⟨h1, h2, h3, h4, hr⟩
  · rw [hr] at he; cases he
  · rw [hr] at he; cases he
  · rw [hr] at he; cases he
  · rw [hr] at he; cases he
  · rw [h1] at hval
    clear h1 hr he
    go_enter Try.func26, Try.ntmps26
    go_wp2_with (go_at_call 40; refine (hval _).mono ?_; rintro e w1 ⟨rfl, hb⟩; rw [← HW.out] at hb; obtain ⟨n0, n1, hka, hg, hbb⟩ := HBX.out _ hb; have p0 : w1.cell? ⟨w.heap.size + 1, 0, none⟩ = some (.int .i64 k.id) := hka.cell 0; have p7 : w1.cell? ⟨w.heap.size + 1, 7, none⟩ = some (.int .i64 k.par) := hka.cell 7; have f0 := hka.free 0; have HG := Lib.hid hg; have HKA := Lib.hid hka; have HB1 := Lib.hid hb; have HBB := Lib.hid hbb; clear hg hka hb hbb)
    have hsz := hszW.out
    have hb1s := HB1.out.size
    obtain ⟨w2, hw2⟩ : ∃ w2, w2 = w1.setCell ⟨w.heap.size + 1, 0, none⟩ (.int .i64 nx) := ⟨_, rfl⟩
    have hw2s : w2.heap.size = w1.heap.size := by rw [hw2, setCell_size]
    have y1 : KAt w2 (w.heap.size + 1) (withId k nx) := by rw [hw2]; exact kat_set HKA.out nx
    have y2 : w2.heap[w.heap.size + 1 + 1]? = some (.cells #[.int .i64 0, .slice none 0 0] 24 (0, 0)) := by
      rw [hw2, setCell_block (by omega)]; exact HG.out
    have hb12 : Below (w.heap.size + 1) w1 w2 := by rw [hw2]; exact (Below.refl (w.heap.size + 1) w1).setCell (p := ⟨w.heap.size + 1, 0, none⟩) (Nat.le_refl _) _
    have y3 : w2.cell? ⟨w.heap.size, 0, none⟩ = some (.int .i64 nx) := by rw [hb12.cell (p := ⟨w.heap.size, 0, none⟩) (by show w.heap.size < _; omega)]; exact n0
    have y4 : w2.cell? ⟨w.heap.size, 1, none⟩ = some (.slice a l.length cap) := by rw [hb12.cell (p := ⟨w.heap.size, 1, none⟩) (by show w.heap.size < _; omega)]; exact n1
    have y5 : RdK w2 (.slice a l.length l.length) l := (HVW.out.on (HBB.out.trans (hb12.mono (by omega)))).clip
    have y6 : Below w.heap.size w w2 := HBB.out.trans (hb12.mono (by omega))
    rw [← hw2]
    have HF : Hid (∀ w3, Below w2.heap.size w2 w3 → w3.cell? ⟨w.heap.size, 0, none⟩ = some (.int .i64 nx) ∧ w3.cell? ⟨w.heap.size, 1, none⟩ = some (.slice a l.length cap) ∧ Nine w3 (w.heap.size + 1) 0 (withId k nx)) :=
      Lib.hid (fun w3 h3 => ⟨by rw [h3.cell (p := ⟨w.heap.size, 0, none⟩) (by show w.heap.size < _; omega)]; exact y3, by rw [h3.cell (p := ⟨w.heap.size, 1, none⟩) (by show w.heap.size < _; omega)]; exact y4, (y1.on h3).nine⟩)
    have HQ : Hid (∀ w3, Below w2.heap.size w2 w3 → w3.heap[w.heap.size + 1 + 1]? = some (.cells #[.int .i64 0, .slice none 0 0] 24 (0, 0))) := Lib.hid (fun w3 h3 => by rw [h3.block _ (by omega)]; exact y2)
    unfold Nine at HF
    simp only [Nat.zero_add] at HF
    have HRD0 := Lib.hid y5
    have HB6 := Lib.hid y6
    have hb0 := HF.out w2 (Below.refl _ _)
    obtain ⟨z0, z1, x0, x1, x2, x3, x4, x5, x6, x7, x8⟩ := hb0
    have l1 : w.heap.size < w2.heap.size := by omega
    have l2 : w.heap.size + 1 < w2.heap.size := by omega
    have l3 : w.heap.size + 1 + 1 < w2.heap.size := by omega
    have ne1 : w.heap.size + 1 + 1 ≠ w.heap.size := by omega
    have ne2 : w.heap.size ≠ w.heap.size + 1 + 1 := by omega
    have HRM : Hid (l.length + 1 ≤ 1000000) := Lib.hid (by omega)
    have HCAP := Lib.hid hcap
    have HCAPM := Lib.hid hcapm
    clear y1 y2 y3 y4 y5 y6 hb12 hcap hcapm n0 n1 p0 p7 f0 hw2s
    clear hw2
    go_region_held3 (fun w' => w'.cell? ⟨w.heap.size, 0, none⟩ = some (.int .i64 nx) ∧ w'.cell? ⟨w.heap.size, 1, none⟩ = some (.slice a l.length cap) ∧ w'.cell? ⟨w.heap.size + 1, 0, none⟩ = some (.int .i64 (withId k nx).id) ∧ w'.cell? ⟨w.heap.size + 1, 1, none⟩ = some (.int .i64 (withId k nx).ty) ∧ w'.cell? ⟨w.heap.size + 1, 2, none⟩ = some (.string ⟨(withId k nx).val.toArray⟩) ∧
        w'.cell? ⟨w.heap.size + 1, 3, none⟩ = some (.int .i64 (withId k nx).uses) ∧ w'.cell? ⟨w.heap.size + 1, 4, none⟩ = some (.int .i64 (withId k nx).start) ∧ w'.cell? ⟨w.heap.size + 1, 5, none⟩ = some (.int .i64 (withId k nx).fin) ∧
        w'.cell? ⟨w.heap.size + 1, 6, none⟩ = some (.int .i64 (withId k nx).ver) ∧ w'.cell? ⟨w.heap.size + 1, 7, none⟩ = some (.int .i64 (withId k nx).par) ∧ w'.cell? ⟨w.heap.size + 1, 8, none⟩ = some (.bool (withId k nx).raw))
      (first
        | go_keep
        | exact HF.out _ (Below.refl _ _)
        | exact HF.out _ ((below_drewN 1 ((Below.refl w2.heap.size w2).alloc (Nat.le_refl _) _)).trans (hb'.mono (by simp))))
      ((first
        | (refine step_grow_k rfl (.tmp 38) (.tmp 40) rfl a l rfl ((HRD0.out.alloc _).drew 1) ⟨w2.heap.size, 0, none⟩ 1 1 [withId k nx] rfl rfl (by decide) (one_stepK w2 (withId k nx)) HRM.out ?_; intro v' w' ho' hb'; have HRD := Lib.hid ho'; have hrd := ho'.rd; clear ho'; obtain ⟨va, vcap, rfl, _, _, _⟩ := hrd; have hbw := (below_drewN 1 ((Below.refl w2.heap.size w2).alloc (Nat.le_refl _) (.cells (kc (withId k nx)) 30))).trans (hb'.mono (by simp)); have qr := HQ.out w' hbw; have HBF := Lib.hid (HB6.out.trans (hbw.mono (by omega))); have r0 : w'.cell? ⟨w.heap.size + 1 + 1, 0, none⟩ = some (.int .i64 0) := cell_of_row _ _ _ _ _ _ qr; have r1 : w'.cell? ⟨w.heap.size + 1 + 1, 1, none⟩ = some (.slice none 0 0) := cell_of_row _ _ _ _ _ _ qr; have g0 := frow qr 0; have g1 := frow qr 1; clear qr hbw)
        | (go_at_call 42; refine (clip_k _ _ _ _ HCAP.out HCAPM.out).mono ?_; rintro e wf ⟨rfl, hwf⟩; rw [hwf]; clear hwf)))
    all_goals
      go_wp2
      have hle : w.heap.size ≤ w.heap.size + 1 + 1 := by omega
      have hs := hszW.out
      refine bodyPost_ret (v := .tuple #[.agg #[.int .i64 (nx + 1), .slice va (l.length + 1) vcap], .int .i64 nx, .int .i64 0]) (by simp [results, Try.results26, go_sem, r0, r1]; rfl) rfl ⟨_, rfl, ?_, ?_⟩
      · exact ownK_own1 (ownK_set (ownK_set HRD.out (by simp; omega)) (by simp; omega)) (by simp; omega)
      · exact (HBF.out.setCell (p := ⟨w.heap.size + 1 + 1, 0, none⟩) hle _).setCell (p := ⟨w.heap.size + 1 + 1, 1, none⟩) hle _
end Go.Proofs.Ytjbndfnhollfnaa
