/- The specification's Twin. -/
import Derived.Test.YtjbndfnhollfnaaKeyD
namespace Go.Proofs.Ytjbndfnhollfnaa
open Go.RowKit Go.Shelf
set_option linter.unusedSimpArgs false
set_option linter.unusedVariables false
theorem KAt.nine {w : World} {B : Nat} {k : K} (h : KAt w B k) : Nine w B 0 k := ⟨h.cell 0, h.cell 1, h.cell 2, h.cell 3, h.cell 4, h.cell 5, h.cell 6, h.cell 7, h.cell 8⟩
attribute [local irreducible] Calls alikeK
set_option maxHeartbeats 4000000 in
theorem twin_r (nx : Int) (v : Value) (l : List K) (k : K) (w : World) (hv : RdK w v l) :
    Calls Try.prog 13 #[.agg #[.int .i64 nx, v], kv k] w fun e w' => e = .returned (.tuple #[.int .i64 (twinId l k), .bool (twinIs l k)]) ∧ Below w.heap.size w w' := by
  have hlen := hv.len
  unfold maxLen at hlen
  obtain ⟨W0, hW0⟩ : ∃ W0, W0 = (w.alloc (.cells #[.int .i64 nx, v] 24)).alloc (.cells (kc k) 30) := ⟨_, rfl⟩
  have hka : KAt W0 (w.heap.size + 1) k := by rw [hW0]; exact kat2 w _ k
  have hvw : RdK W0 v l := by rw [hW0]; exact (hv.alloc _).alloc _
  have hbx : ∀ w1, Below W0.heap.size W0 w1 → w1.cell? ⟨w.heap.size, 1, none⟩ = some v := by
    intro w1 h
    rw [hW0] at h
    exact boxed2 _ _ _ _ h 1
  have hbe : ∀ w1, Below W0.heap.size W0 w1 → Below w.heap.size w w1 := by
    intro w1 h
    rw [hW0] at h
    exact below2 _ _ _ h
  have hsz : w.heap.size + 1 < W0.heap.size := hka.lt
  have HW := Lib.hid hW0
  have HKA := Lib.hid hka
  have HV := Lib.hid hvw
  have HBX := Lib.hid hbx
  have HBE := Lib.hid hbe
  have HTP := Lib.hid (twin_parts l k)
  obtain ⟨a, cap, rfl, _, _, _⟩ := hv
  clear hW0 hka hvw hbx hbe
  have hstart : Hid (W0 = (w.alloc (.cells #[.int .i64 nx, .slice a l.length cap] 24)).alloc (.cells #[.int .i64 k.id, .int .i64 k.ty, .string ⟨k.val.toArray⟩, .int .i64 k.uses, .int .i64 k.start, .int .i64 k.fin, .int .i64 k.ver, .int .i64 k.par, .bool k.raw] 30)) := HW
  unfold kv kc
  go_enter Try.func13, Try.ntmps13
  go_wp2
  go_loopw [6] (fun o wr => ∃ i : Nat, i ≤ l.length ∧ o = .int .i64 i ∧ Hid (∀ j, j < i → alikeK (keyAt l j) k = false) ∧ Below W0.heap.size W0 wr) (fun o _ => l.length - (intOf o).toNat)
  case atStart => exact ⟨0, Nat.zero_le _, rfl, Lib.hid (fun j hj => absurd hj (by omega)), by rw [← hstart.out]; exact Below.refl _ _⟩
  case round =>
    obtain ⟨i, hi, rfl, hno, hb⟩ := hrel
    have t1 := HBX.out wr hb
    have hbs := hb.size
    have z0 : w.heap.size < wr.heap.size := by omega
    have z1 : w.heap.size + 1 < wr.heap.size := by omega
    by_cases hlt : i < l.length
    · obtain ⟨b, off, rfl, hbl, hrow⟩ := ((HV.out.on hb).cells) (by omega)
      obtain ⟨d0, d1, d2, d3, d4, d5, d6, d7, d8⟩ := hrow i hlt
      obtain ⟨k0, k1, k2, k3, k4, k5, k6, k7, k8⟩ := (HKA.out.on hb).nine
      simp only [Nat.zero_add] at k1 k2 k3 k4 k5 k6 k7 k8
      have i1 : (i : Int) < l.length := by omega
      have HK := Lib.hid hlt
      have HNO := hno
      have HB := Lib.hid hb
      have hal := fun w' => alike_r (keyAt l i) k w'
      unfold kv kc at hal
      have hd : ∀ u : Later wr, u.now.cell? ⟨b, off + i * 9, none⟩ = some (.int .i64 (keyAt l i).id) := fun u => by rw [u.cell _ _ hbl]; exact d0
      have HD := Lib.hid hd
      have ht : ∀ u : Later wr, u.now.cell? ⟨w.heap.size, 1, none⟩ = some (.slice (some ⟨b, off, none⟩) l.length cap) := fun u => by rw [u.cell _ _ z0]; exact t1
      have HT := Lib.hid ht
      clear hrow hb hd ht
      cases hq : alikeK (keyAt l i) k with
      | true =>
        rw [hq] at hal
        have HAL := Lib.hid hal
        have hres : twinId l k = (keyAt l i).id ∧ twinIs l k = true := by
          rcases HTP.out with ⟨_, _, _, h4⟩ | ⟨j, hj, h1, h2, _, h5, h6⟩
          · rw [h4 i hlt] at hq; cases hq
          · have : j = i := by
              rcases Nat.lt_trichotomy j i with h | h | h
              · have := hno.out j h; rw [h5] at this; cases this
              · exact h
              · have := h6 i h; rw [hq] at this; cases this
            subst this
            exact ⟨h1, h2⟩
        have HRES := Lib.hid hres
        clear hal hq hno hres
        go_wp2
        refine allL (by kernel_rfl) (by kernel_rfl) ?_
        repeat (go_big_quiet_step ((go_at_call 30; exact Later.call _ (HAL.out _))))
        refine wpQuiet_nil ?_
        rintro _ ⟨u, rfl⟩
        have e0 := HD.out u
        have e1 := HT.out u
        go_wp2
        go_ret2
        exact ⟨by rw [HRES.out.1, HRES.out.2]; rfl, HBE.out _ (HB.out.trans (u.below.mono hbs))⟩
      | false =>
        rw [hq] at hal
        have HAL := Lib.hid hal
        have HQ := Lib.hid hq
        clear hal hq hno
        go_wp2
        refine allL (by kernel_rfl) (by kernel_rfl) ?_
        repeat (go_big_quiet_step ((go_at_call 30; exact Later.call _ (HAL.out _))))
        refine wpQuiet_nil ?_
        rintro _ ⟨u, rfl⟩
        go_wp2
        go_roundw
        case rel => exact ⟨i + 1, HK.out, by go_num, Lib.hid (fun j hj => by
          by_cases e : j = i
          · subst e; exact HQ.out
          · exact HNO.out j (by omega)), HB.out.trans (u.below.mono hbs)⟩
        case measure => have := HK.out; simp [intOf]; omega
    · have he : i = l.length := by omega
      have i1 : (l.length : Int) ≤ i := by omega
      have hres : twinId l k = 0 ∧ twinIs l k = false := by
        rcases HTP.out with ⟨h1, h2, _, h4⟩ | ⟨j, hj, h1, h2, _, h5, h6⟩
        · exact ⟨h1, h2⟩
        · have := hno.out j (by omega); rw [h5] at this; cases this
      have HRES := Lib.hid hres
      clear hres hno he
      go_wp2
      go_ret2
      exact ⟨by rw [HRES.out.1, HRES.out.2]; rfl, HBE.out _ hb⟩
end Go.Proofs.Ytjbndfnhollfnaa
