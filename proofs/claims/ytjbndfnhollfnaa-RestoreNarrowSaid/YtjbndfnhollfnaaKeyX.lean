/- The specification's Add, granted. -/
import Derived.Test.YtjbndfnhollfnaaKeyW
import Derived.Test.YtjbndfnhollfnaaPlanA
import Derived.Deep.Onto
namespace Go.Proofs.Ytjbndfnhollfnaa
open Go.RowKit Go.Shelf
set_option linter.unusedSimpArgs false
set_option linter.unusedVariables false
theorem setCell_rowK (w : World) (g i : Nat) (cs : Array Value) (T : TypeId) (fr : Nat × Nat) (v : Value) (h : w.heap[g]? = some (.cells cs T fr)) : w.setCell ⟨g, i, none⟩ v = w.setRow g (cs.setIfInBounds i v) := by
  unfold World.setCell World.setRow
  simp only [World.mk.injEq, and_true]
  apply Array.ext_getElem?
  intro j
  simp only [Array.getElem?_modify]
  by_cases h' : g = j
  · subst h'
    simp [h]
  · simp [h']
theorem kat_set {w : World} {B : Nat} {k : K} (h : KAt w B k) (n : Int) : KAt (w.setCell ⟨B, 0, none⟩ (.int .i64 n)) B (withId k n) := by
  unfold KAt at *
  rw [setCell_rowK w B 0 _ _ _ _ h, setRow_heap _ _ _ _ _ _ h]
  rfl
attribute [local irreducible] Calls validK
theorem setCell_block {w : World} {g g2 k : Nat} {v : Value} (h : g2 ≠ g) : (w.setCell ⟨g2, k, none⟩ v).heap[g]? = w.heap[g]? := by
  unfold World.setCell
  simp [Array.getElem?_modify, h]
theorem setCell_size (w : World) (p : Addr) (v : Value) : (w.setCell p v).heap.size = w.heap.size := by simp [World.setCell]
theorem KAt.free {w : World} {B : Nat} {k : K} (h : KAt w B k) (j : Nat) : w.frozen? ⟨B, j, none⟩ = false := by
  unfold KAt at h
  simp [World.frozen?, h]
theorem frow {w : World} {g : Nat} {cs : Array Value} {T : TypeId} (h : w.heap[g]? = some (.cells cs T (0, 0))) (j : Nat) : w.frozen? ⟨g, j, none⟩ = false := by simp [World.frozen?, h]
theorem ownK_set {w : World} {base : Nat} {v : Value} {l : List K} {g2 k : Nat} {x : Value} (h : OwnK w base v l) (hlt : g2 < base) : OwnK (w.setCell ⟨g2, k, none⟩ x) base v l := by
  refine ⟨h.1, ?_⟩
  rcases h.2 with hn | ⟨g, cap, cur, rfl, hg, hgg, r⟩
  · exact .inl hn
  · exact .inr ⟨g, cap, cur, rfl, hg, by rw [setCell_block (by omega)]; exact hgg, r⟩
theorem ownK_rd1 {w : World} {base : Nat} {va : Option Addr} {c : Nat} {l : List K} {x : K} (h : OwnK w base (.slice va (l ++ [x]).length c) (l ++ [x])) : RdK w (.slice va (l.length + 1) c) (l ++ [x]) := by
  have := h.rd
  rwa [List.length_append] at this
theorem ownK_own1 {w : World} {base b' : Nat} {va : Option Addr} {c : Nat} {l : List K} {x : K} (h : OwnK w base (.slice va (l ++ [x]).length c) (l ++ [x])) (hb : b' ≤ base) : OwnK w b' (.slice va (l.length + 1) c) (l ++ [x]) := by
  have h2 := World.ownsRow.mono h hb
  unfold OwnK
  rw [List.length_append] at h2 ⊢
  exact h2
theorem own_stepK {w : World} {base : Nat} {v : Value} {l : List K} (h : OwnK w base v l) (X : Obj) : OwnK (w.alloc X).drew base v l :=
  (h.keep ((Below.refl w.heap.size w).alloc (Nat.le_refl _) X) (Nat.le_refl _)).keep (below_drewN 1 (Below.refl (w.alloc X).heap.size (w.alloc X))) (Nat.le_refl _)
theorem base_stepK {w : World} {B : Nat} (h : B ≤ w.heap.size) (X : Obj) : B ≤ (w.alloc X).drew.heap.size := by
  have : (w.alloc X).drew.heap.size = w.heap.size + 1 := by simp
  omega
theorem one_stepK (w : World) (k : K) : RdK (w.alloc (.cells (kc k) 30)).drew (.slice (some ⟨w.heap.size, 0, none⟩) 1 1) [k] := (one_k w k).drew 1
theorem st4 {w : World} {g : Nat} {T : TypeId} {n i e n0 i0 e0 : Int} {v v0 : Value} (h : w.heap[g]? = some (.cells (ac n0 v0 i0 e0) T (0, 0))) :
    ((((w.setCell ⟨g, 0, none⟩ (.int .i64 n)).setCell ⟨g, 1, none⟩ v).setCell ⟨g, 2, none⟩ (.int .i64 i)).setCell ⟨g, 3, none⟩ (.int .i64 e)).heap[g]? = some (.cells (ac n v i e) T (0, 0)) := by
  have h1 := setRow_heap w g _ ((ac n0 v0 i0 e0).setIfInBounds 0 (.int .i64 n)) _ _ h
  rw [← setCell_rowK _ _ _ _ _ _ _ h] at h1
  have h2 := setRow_heap _ g _ (((ac n0 v0 i0 e0).setIfInBounds 0 (.int .i64 n)).setIfInBounds 1 v) _ _ h1
  rw [← setCell_rowK _ _ _ _ _ _ _ h1] at h2
  have h3 := setRow_heap _ g _ ((((ac n0 v0 i0 e0).setIfInBounds 0 (.int .i64 n)).setIfInBounds 1 v).setIfInBounds 2 (.int .i64 i)) _ _ h2
  rw [← setCell_rowK _ _ _ _ _ _ _ h2] at h3
  have h4 := setRow_heap _ g _ (((((ac n0 v0 i0 e0).setIfInBounds 0 (.int .i64 n)).setIfInBounds 1 v).setIfInBounds 2 (.int .i64 i)).setIfInBounds 3 (.int .i64 e)) _ _ h3
  rw [← setCell_rowK _ _ _ _ _ _ _ h3] at h4
  exact h4
set_option maxRecDepth 100000 in
set_option maxHeartbeats 2000000 in
theorem add_r (nx : Int) (v : Value) (l : List K) (k : K) (w : World) (hv : RdK w v l) (he : addErr nx l k = 0) (hl : l.length ≤ 5000) (hnx : IntKind.i64.wrap (nx + 1) = nx + 1) :
    Calls Try.prog 27 #[.agg #[.int .i64 nx, v], kv k] w fun e w' => ∃ v', e = .returned (.agg (ac (nx + 1) v' nx 0)) ∧ OwnK w' w.heap.size v' (l ++ [withId k nx]) ∧ Below w.heap.size w w' := by
  have hval := fun w => valid_ref k w
  obtain ⟨W0, hW0⟩ : ∃ W0, W0 = ((w.alloc (.cells #[.int .i64 nx, v] 24)).alloc (.cells (kc k) 30)).alloc (.cells #[.int .i64 0, .slice none 0 0, .int .i64 0, .int .i64 0] 66) := ⟨_, rfl⟩
  have hvw : RdK W0 v l := by rw [hW0]; exact ((hv.alloc _).alloc _).alloc _
  have hbx : ∀ w1, Below W0.heap.size W0 w1 → w1.cell? ⟨w.heap.size, 0, none⟩ = some (.int .i64 nx) ∧ w1.cell? ⟨w.heap.size, 1, none⟩ = some v ∧ KAt w1 (w.heap.size + 1) k ∧
      w1.heap[w.heap.size + 1 + 1]? = some (.cells (ac 0 (.slice none 0 0) 0 0) 66 (0, 0)) ∧ Below w.heap.size w w1 := by
    intro w1 h
    rw [hW0] at h
    have h1 : Below ((w.alloc (.cells #[.int .i64 nx, v] 24)).alloc (.cells (kc k) 30)).heap.size ((w.alloc (.cells #[.int .i64 nx, v] 24)).alloc (.cells (kc k) 30)) w1 := below1 _ _ h
    exact ⟨boxed2 _ _ _ _ h1 0, boxed2 _ _ _ _ h1 1, (kat2 w _ k).on h1, by rw [h.block _ (by simp)]; exact heap3_2' _ _ _ _, below3 _ _ _ _ h⟩
  have HBX := Lib.hid hbx
  have HW := Lib.hid hW0
  have HV := Lib.hid hv
  have hszW : Hid (w.heap.size + 1 + 1 < W0.heap.size) := Lib.hid (by rw [hW0]; simp)
  obtain ⟨a, cap, rfl, _, _, _⟩ := hv
  clear hW0 hbx hvw
  unfold kv kc at hval ⊢
  unfold kc at HW
  rcases addErr_parts nx l k with ⟨h1, hr⟩ | ⟨h1, h2, hr⟩ | ⟨h1, h2, h3, hr⟩ | ⟨h1, h2, h3, h4, hr⟩ | ⟨h1, h2, h3, h4, hr⟩
  · rw [hr] at he; cases he
  · rw [hr] at he; cases he
  · rw [hr] at he; cases he
  · rw [hr] at he; cases he
  · rw [h1] at hval
    clear h1 hr he
    go_enter Try.func27, Try.ntmps27
    go_wp2_with (first
      | (go_at_call 22; refine (hval _).mono ?_; rintro e w1 ⟨rfl, hb⟩; rw [← HW.out] at hb; obtain ⟨n0, n1, hka, hg, hbb⟩ := HBX.out _ hb; have p0 : w1.cell? ⟨w.heap.size + 1, 0, none⟩ = some (.int .i64 k.id) := hka.cell 0; have p7 : w1.cell? ⟨w.heap.size + 1, 7, none⟩ = some (.int .i64 k.par) := hka.cell 7; have f0 := hka.free 0; have HG := Lib.hid hg; have HKA := Lib.hid hka; have HB1 := Lib.hid hb; have HBB := Lib.hid hbb; clear hg hka hb hbb)
      | (at_builtin; refine app_k rfl (.tmp 32) (.tmp 34) rfl W0.heap.size _ [] rfl (OwnK.nil _ _) _ l rfl (HV.out.on (HBB.out.setCell (by show w.heap.size ≤ w.heap.size + 1; omega) _)) (by simp; omega) (by rw [setCell_size]; exact HB1.out.size) ?_; intro v1 w2 ho hb2))
    have hsz := hszW.out
    have hb1s := HB1.out.size
    have hw2s := hb2.size
    rw [setCell_size] at hw2s
    have y1 := kat_set HKA.out nx
    have y2 : (w1.setCell ⟨w.heap.size + 1, 0, none⟩ (.int .i64 nx)).heap[w.heap.size + 1 + 1]? = some (.cells (ac 0 (.slice none 0 0) 0 0) 66 (0, 0)) := by
      rw [setCell_block (by omega)]; exact HG.out
    have y3 : (w1.setCell ⟨w.heap.size + 1, 0, none⟩ (.int .i64 nx)).cell? ⟨w.heap.size, 0, none⟩ = some (.int .i64 nx) := by
      rw [((Below.refl (w.heap.size + 1) w1).setCell (p := ⟨w.heap.size + 1, 0, none⟩) (Nat.le_refl _) _).cell (p := ⟨w.heap.size, 0, none⟩) (by show w.heap.size < _; omega)]; exact n0
    have HF : Hid (∀ w3, Below W0.heap.size (w1.setCell ⟨w.heap.size + 1, 0, none⟩ (.int .i64 nx)) w3 → w3.cell? ⟨w.heap.size, 0, none⟩ = some (.int .i64 nx) ∧ KAt w3 (w.heap.size + 1) (withId k nx) ∧ w3.heap[w.heap.size + 1 + 1]? = some (.cells (ac 0 (.slice none 0 0) 0 0) 66 (0, 0))) :=
      Lib.hid (fun w3 h3 => ⟨by rw [h3.cell (p := ⟨w.heap.size, 0, none⟩) (by show w.heap.size < _; omega)]; exact y3, y1.keep h3 (by omega), by rw [h3.block _ (by omega)]; exact y2⟩)
    obtain ⟨z0, zk, zr⟩ := HF.out w2 hb2
    obtain ⟨x0, x1, x2, x3, x4, x5, x6, x7, x8⟩ := zk.nine
    simp only [Nat.zero_add] at x1 x2 x3 x4 x5 x6 x7 x8
    have l1 : w.heap.size < w2.heap.size := by omega
    have l2 : w.heap.size + 1 < w2.heap.size := by omega
    have l3 : w.heap.size + 1 + 1 < w2.heap.size := by omega
    have hz2 : W0.heap.size ≤ w2.heap.size := by omega
    have HB2 := Lib.hid hb2
    have HBE : Hid (∀ w3, Below W0.heap.size (w1.setCell ⟨w.heap.size + 1, 0, none⟩ (.int .i64 nx)) w3 → Below w.heap.size w w3) := Lib.hid (fun w3 h3 => (HBB.out.setCell (p := ⟨w.heap.size + 1, 0, none⟩) (by show w.heap.size ≤ w.heap.size + 1; omega) _).trans (h3.mono (by omega)))
    have hroom : l.length + 1 ≤ 1000000 := by omega
    have HRM := Lib.hid hroom
    clear hb2 y1 y2 y3 zk zr
    have HS : Hid (∀ w3, Below W0.heap.size (w1.setCell ⟨w.heap.size + 1, 0, none⟩ (.int .i64 nx)) w3 → w3.cell? ⟨w.heap.size, 0, none⟩ = some (.int .i64 nx) ∧ Nine w3 (w.heap.size + 1) 0 (withId k nx)) := Lib.hid (fun w3 h3 => ⟨(HF.out w3 h3).1, (HF.out w3 h3).2.1.nine⟩)
    unfold Nine at HS
    have ne1 : w.heap.size + 1 + 1 ≠ w.heap.size := by omega
    have ne2 : w.heap.size ≠ w.heap.size + 1 + 1 := by omega
    simp only [Nat.zero_add] at HS
    go_region_held3 (fun w' => w'.cell? ⟨w.heap.size, 0, none⟩ = some (.int .i64 nx) ∧ w'.cell? ⟨w.heap.size + 1, 0, none⟩ = some (.int .i64 (withId k nx).id) ∧ w'.cell? ⟨w.heap.size + 1, 1, none⟩ = some (.int .i64 (withId k nx).ty) ∧ w'.cell? ⟨w.heap.size + 1, 2, none⟩ = some (.string ⟨(withId k nx).val.toArray⟩) ∧
        w'.cell? ⟨w.heap.size + 1, 3, none⟩ = some (.int .i64 (withId k nx).uses) ∧ w'.cell? ⟨w.heap.size + 1, 4, none⟩ = some (.int .i64 (withId k nx).start) ∧ w'.cell? ⟨w.heap.size + 1, 5, none⟩ = some (.int .i64 (withId k nx).fin) ∧
        w'.cell? ⟨w.heap.size + 1, 6, none⟩ = some (.int .i64 (withId k nx).ver) ∧ w'.cell? ⟨w.heap.size + 1, 7, none⟩ = some (.int .i64 (withId k nx).par) ∧ w'.cell? ⟨w.heap.size + 1, 8, none⟩ = some (.bool (withId k nx).raw))
      (first
        | go_keep
        | exact HS.out _ HB2.out
        | exact HS.out _ (HB2.out.trans ((below_drewN 1 ((Below.refl W0.heap.size w2).alloc hz2 _)).trans hb')))
      ((refine step_app_k rfl (.tmp 39) (.tmp 41) rfl W0.heap.size _ l rfl (own_stepK ho _) ⟨w2.heap.size, 0, none⟩ 1 1 [withId k nx] rfl rfl (by decide) (one_stepK w2 (withId k nx)) HRM.out (base_stepK hz2 _) ?_; intro v' w' ho' hb'; have HRD := Lib.hid ho'; have hrd := ho'.rd; clear ho'; obtain ⟨va, vcap, rfl, _, _, _⟩ := hrd; obtain ⟨q0, qk, qr⟩ := HF.out w' (HB2.out.trans ((below_drewN 1 ((Below.refl W0.heap.size w2).alloc hz2 _)).trans hb')); have HBF := Lib.hid (HBE.out w' (HB2.out.trans ((below_drewN 1 ((Below.refl W0.heap.size w2).alloc hz2 _)).trans hb'))); have r0 : w'.cell? ⟨w.heap.size + 1 + 1, 0, none⟩ = some (.int .i64 0) := cell_of_row _ _ _ _ _ _ qr; have r1 : w'.cell? ⟨w.heap.size + 1 + 1, 1, none⟩ = some (.slice none 0 0) := cell_of_row _ _ _ _ _ _ qr; have r2 : w'.cell? ⟨w.heap.size + 1 + 1, 2, none⟩ = some (.int .i64 0) := cell_of_row _ _ _ _ _ _ qr; have r3 : w'.cell? ⟨w.heap.size + 1 + 1, 3, none⟩ = some (.int .i64 0) := cell_of_row _ _ _ _ _ _ qr; have g0 := frow qr 0; have g1 := frow qr 1; have g2 := frow qr 2; have g3 := frow qr 3; have QR := Lib.hid qr; clear qr q0 qk))
    all_goals
      go_wp2
      (try simp only [Exit.inBlock, Exit.then])
      refine bodyPost_ret (res_add rfl _ _ (w.heap.size + 1 + 1) _ _ _ _ rfl (st4 QR.out)) rfl ?_
      refine ⟨_, rfl, ?_, ?_⟩
      · have hs := hszW.out
        exact ownK_own1 (ownK_set (ownK_set (ownK_set (ownK_set HRD.out hs) hs) hs) hs) (by omega)
      · have hle : w.heap.size ≤ w.heap.size + 1 + 1 := by omega
        exact (((HBF.out.setCell (p := ⟨w.heap.size + 1 + 1, 0, none⟩) hle _).setCell (p := ⟨w.heap.size + 1 + 1, 1, none⟩) hle _).setCell (p := ⟨w.heap.size + 1 + 1, 2, none⟩) hle _).setCell (p := ⟨w.heap.size + 1 + 1, 3, none⟩) hle _
end Go.Proofs.Ytjbndfnhollfnaa
