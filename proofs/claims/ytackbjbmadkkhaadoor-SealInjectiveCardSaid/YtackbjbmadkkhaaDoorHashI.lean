/- The hash of bytes. -/
import Derived.Test.YtackbjbmadkkhaaDoorHashH
namespace Go.Proofs.YtackbjbmadkkhaaDoor
open Go.RowKit
set_option linter.unusedSimpArgs false
set_option linter.unusedVariables false
theorem tailB_take (n : Nat) : ∀ M : List UInt8, M.length = n → (tailB M).take (M.length % 64) = M.drop (64 * (M.length / 64)) := by
  induction n with
  | zero =>
    intro M hM
    have : M = [] := List.length_eq_zero_iff.1 hM
    subst this
    rfl
  | succ n ih =>
    intro M hM
    have hne : M ≠ [] := by intro e; rw [e] at hM; simp at hM
    have hd : M.dropLast.length = n := by rw [List.length_dropLast]; omega
    rw [← List.dropLast_concat_getLast hne]
    generalize M.getLast hne = c
    generalize M.dropLast = N at hd ⊢
    have h := ih N hd
    have hlt : N.length % 64 < 64 := Nat.mod_lt _ (by decide)
    rw [tailB_lay _ _ (by simp only [List.length_singleton]; omega)]
    by_cases h64 : N.length % 64 + 1 = 64
    · obtain ⟨p1, p2, p3, p4⟩ := st_full N [c] (tailB N) (tailB_len N) h (by simpa using h64)
      rw [p1, p2, p4, List.take_zero]
    · obtain ⟨p1, p2, p3, p4⟩ := st_part N [c] (tailB N) (tailB_len N) h (by simp only [List.length_singleton]; omega)
      rw [p1, p2, p4]
theorem stv_ok (M : List UInt8) : StV M (stv M) := ⟨tailB M, rfl, tailB_len M, tailB_take _ M rfl, rfl⟩
theorem begin_s (w : World) : Calls Tryd.prog 33 #[] w fun e w' => e = .returned (stv []) ∧ Below w.heap.size w w' := begin_c w
theorem add_s (M text : List UInt8) (w : World) (hk : KAt w) (hlen : M.length + text.length ≤ 1000000000000) :
    Calls Tryd.prog 34 #[stv M, .string ⟨text.toArray⟩] w fun e w' => e = .returned (stv (M ++ text)) ∧ Below w.heap.size w w' := by
  refine (add_c M text _ w (stv_ok M) hk hlen).mono ?_
  rintro e w' ⟨v', rfl, hv, hb⟩
  exact ⟨by rw [hv.eq], hb⟩
theorem sum_s (M : List UInt8) (w : World) (hk : KAt w) (hlen : M.length ≤ 100000000000) :
    Calls Tryd.prog 35 #[stv M] w fun e w' => e = .returned (.agg (brow (sha M))) ∧ Below w.heap.size w w' := sum_c M _ w (stv_ok M) hk hlen
theorem KAt.on {w w' : World} (h : KAt w) (hb : Below w.heap.size w w') : KAt w' := by
  have hlt := h.lt
  unfold KAt
  rw [hb.block _ hlt]
  exact h
theorem KAt.alloc {w : World} (h : KAt w) (X : Obj) : KAt (w.alloc X) := h.on ((Below.refl _ _).alloc (Nat.le_refl _) X)
theorem KAt.later {w : World} (h : KAt w) (u : Later w) : KAt u.now := h.on u.below
attribute [local irreducible] Calls stc blks cmpr row brow stv sha
set_option maxRecDepth 100000 in
set_option maxHeartbeats 2000000 in
theorem hsum_c (v : Value) (m : List UInt8) (w : World) (hv : RdE eB w v m) (hk : KAt w) (hlen : m.length ≤ 100000000000) :
    Calls Tryd.prog 31 #[v] w fun e w' => e = .returned (.agg (brow (sha m))) ∧ Below w.heap.size w w' := by
  have hz := zero_32
  have hcv : ∀ u : Later (w.alloc (.cells (brow z32) 56)), (convert 35 9 v).run Tryd.prog u.now = .ok (.string ⟨m.toArray⟩) u.now := fun u => conv_e ((hv.alloc _).on u.below)
  have HK : Hid (KAt (w.alloc (.cells (brow z32) 56))) := Lib.hid (hk.alloc _)
  have HB : Hid (Below w.heap.size w (w.alloc (.cells (brow z32) 56))) := Lib.hid ((Below.refl _ _).alloc (Nat.le_refl _) _)
  have HG : Hid ((w.alloc (.cells (brow z32) 56)).heap[w.heap.size]? = some (.cells (brow z32) 56 (0, 0))) := Lib.hid (heap_last _ _ _ rfl)
  have h32 : (brow (sha m)).size = 32 := by rw [brow_size, sha_len]
  have HL := Lib.hid hlen
  clear hk hlen
  go_enter Tryd.func31, Tryd.ntmps31
  go_wp2
  generalize w.alloc (.cells (brow z32) 56) = wa at hcv HK HB HG ⊢
  refine tailL 5 (by kernel_rfl) (by kernel_rfl) ?_
  simp only [List.take_succ_cons, List.take_zero, List.drop_succ_cons, List.drop_zero]
  repeat (first
    | go_big_quiet_step ((go_at_call 33; exact Later.call _ (begin_s _)))
    | go_big_quiet_step ((go_at_call 34; exact Later.call _ (add_s [] m _ (HK.out.later _) (by have := HL.out; simp; omega))))
    | go_big_quiet_step ((go_at_call 35; exact Later.call _ (sum_s m _ (HK.out.later _) HL.out))))
  refine wpQuiet_nil ?_
  rintro _ ⟨u, rfl⟩
  have HG2 : Hid (u.now.heap[w.heap.size]? = some (.cells (brow z32) 56 (0, 0))) := Lib.hid (by rw [u.below.block _ (Array.getElem?_eq_some_iff.1 HG.out).1]; exact HG.out)
  go_wp2_with (refine st_T (T := 56) (brow (sha m)) (size32 _ (sha_len m)) rfl (.tmp 2) (.tmp 7) rfl w.heap.size (brow z32) rfl rfl (brow_one _) (by rw [brow_size, brow_size, sha_len]; rfl) HG2.out ?_; intro we hge hoe hbe)
  (try simp only [Exit.inBlock, Exit.then])
  refine bodyPost_ret (results_cell_row rfl _ _ w.heap.size _ (brow (sha m)) (0, 0) _ rfl hge Tryd.underlying56 rfl (size32 _ (sha_len m))) rfl ?_
  exact ⟨rfl, HB.out.trans ((u.below.mono HB.out.size).trans (hbe _ (Nat.le_refl _)))⟩
end Go.Proofs.YtackbjbmadkkhaaDoor
