/- Grant of the specification. -/
import Derived.Test.YtamdlkflcbefdaaDoorPermN
import Derived.Test.YtamdlkflcbefdaaDoorPermL
namespace Go.Proofs.YtamdlkflcbefdaaDoor
open Go.RowKit Go.Shelf
set_option linter.unusedSimpArgs false
set_option linter.unusedVariables false
/-- the cells of an answer -/
abbrev gc (x : Int × Int × Int) : Array Value := #[.int .i64 x.1, .int .i64 x.2.1, .int .i64 x.2.2]
theorem info_g : (Tryd.prog.info? 49).map (·.size) = some 3 := by kernel_rfl
theorem res_g {fn : Func} (p : Tmp) (h : fn.results = #[.cell p 49]) (tmps : Array Value) (w : World) (g : Nat) (x : Int × Int × Int)
    (hp : tmps.getD p undef = .pointer (some ⟨g, 0, none⟩)) (hg : w.heap[g]? = some (.cells (gc x) 49 (0, 0))) : (results fn tmps).run Tryd.prog w = .ok (.agg (gc x)) w :=
  results_cell_row h tmps w g _ (gc x) (0, 0) _ hp hg Tryd.underlying49 rfl info_g
theorem gr_hook (w : World) (A : Obj) (Z : Array Value) {w1 : World} (hb : Below ((w.alloc A).alloc (.cells Z 49)).heap.size ((w.alloc A).alloc (.cells Z 49)) w1) :
    w1.heap[w.heap.size + 1]? = some (.cells Z 49 (0, 0)) := by
  rw [hb.block _ (by simp)]
  have h := heap_alloc_new (w.alloc A) (.cells Z 49)
  simpa using h
attribute [local irreducible] Calls subB usesP grF
set_option maxRecDepth 100000 in
set_option maxHeartbeats 8000000 in
theorem grant_r (s : ByteArray) (vt vr vq : Value) (tl : List TyP) (l : List RuP) (t u li : Int) (w : World) (hT : RdE eT w vt tl) (hv : RdE eR w vr l) (hu : I64 u) :
    Calls Tryd.prog 29 #[.agg #[.string s, vt, vr, vq], .int .i64 t, .int .i64 u, .int .i64 li] w fun e w' => e = .returned (.agg (gc (grP tl l t u li))) ∧ Below w.heap.size w w' := by
  have hlenT := hT.len
  unfold maxLen at hlenT
  obtain ⟨W0, hW0⟩ : ∃ W0, W0 = (w.alloc (.cells #[.string s, vt, vr, vq] 26)).alloc (.cells #[.int .i64 0, .int .i64 0, .int .i64 0] 49) := ⟨_, rfl⟩
  have HV : Hid (RdE eR W0 vr l) := Lib.hid (by rw [hW0]; exact (hv.alloc _).alloc _)
  have HT : Hid (RdE eT W0 vt tl) := Lib.hid (by rw [hW0]; exact (hT.alloc _).alloc _)
  have HBX : Hid (∀ w1, Below W0.heap.size W0 w1 → w1.cell? ⟨w.heap.size, 0, none⟩ = some (.string s) ∧ w1.cell? ⟨w.heap.size, 1, none⟩ = some vt ∧ w1.cell? ⟨w.heap.size, 2, none⟩ = some vr ∧ w1.cell? ⟨w.heap.size, 3, none⟩ = some vq ∧ Below w.heap.size w w1 ∧ w1.heap[w.heap.size + 1]? = some (.cells #[.int .i64 0, .int .i64 0, .int .i64 0] 49 (0, 0))) :=
    Lib.hid (fun w1 h => by rw [hW0] at h; exact ⟨boxed2 _ _ _ _ h 0, boxed2 _ _ _ _ h 1, boxed2 _ _ _ _ h 2, boxed2 _ _ _ _ h 3, below2 _ _ _ h, gr_hook _ _ _ h⟩)
  have HX := Lib.hid (is_r s vt vr vq tl t W0 HT.out)
  have HUS := Lib.hid (fun w1 (h : Below W0.heap.size W0 w1) => uses_r s vt vr vq tl l t w1 (HT.out.on h) (HV.out.on h))
  have HS1 := Lib.hid (fun w1 => subset_r u 956 w1)
  have HS2 := Lib.hid (fun w1 => subset_r u (usesP tl l t) w1)
  rw [← subB_and u _ hu] at HS1 HS2
  obtain ⟨a, cap, rfl, _, _, _⟩ := hv
  obtain ⟨aT, capT, rfl, _, _, _⟩ := hT
  have HW := Lib.hid hW0
  rw [hW0] at HX
  clear hu
  rcases ex_parts t tl.length with ⟨h0, h1⟩ | ⟨h0, h1, h2⟩ | ⟨h0, i, rfl, h2⟩
  · have e : grP tl l t u li = (0, 0, 11) := by unfold grP; rw [h0]; rfl
    rw [e]
    rw [h0] at HX
    clear hW0
    go_enter Tryd.func29, Tryd.ntmps29
    go_wp2_with (first
      | (go_at_call 37; refine HX.out.mono ?_; rintro e w1 ⟨rfl, hb⟩; rw [← HW.out] at hb; obtain ⟨_, _, _, _, hbe, hg⟩ := HBX.out w1 hb; have HG := Lib.hid hg; clear hg)
      | (refine st_T (T := 49) (gc (0, 0, 11)) info_g rfl (.tmp 8) (.tmp 16) rfl _ (gc (0, 0, 0)) rfl rfl (one_3 _ _ _) rfl HG.out ?_; intro w2 hg2 hb2))
    (try simp only [Exit.inBlock, Exit.then])
    refine bodyPost_ret (res_g 8 rfl _ _ (w.heap.size + 1) (0, 0, 11) rfl hg2) rfl ?_
    exact ⟨rfl, hbe.trans (hb2 _ (by omega))⟩
  · have e : grP tl l t u li = (0, 0, 11) := by unfold grP; rw [h0]; rfl
    rw [e]
    rw [h0] at HX
    clear hW0
    go_enter Tryd.func29, Tryd.ntmps29
    go_wp2_with (first
      | (go_at_call 37; refine HX.out.mono ?_; rintro e w1 ⟨rfl, hb⟩; rw [← HW.out] at hb; obtain ⟨_, _, _, _, hbe, hg⟩ := HBX.out w1 hb; have HG := Lib.hid hg; clear hg)
      | (refine st_T (T := 49) (gc (0, 0, 11)) info_g rfl (.tmp 8) (.tmp 16) rfl _ (gc (0, 0, 0)) rfl rfl (one_3 _ _ _) rfl HG.out ?_; intro w2 hg2 hb2))
    (try simp only [Exit.inBlock, Exit.then])
    refine bodyPost_ret (res_g 8 rfl _ _ (w.heap.size + 1) (0, 0, 11) rfl hg2) rfl ?_
    exact ⟨rfl, hbe.trans (hb2 _ (by omega))⟩
  · have e : grP tl l i u li = grF (subB u 956) (subB u (usesP tl l i)) (nth tl i).li u li := by unfold grP; rw [h0]; rfl
    rw [e]
    rw [h0] at HX
    have j1 : (i : Int) < tl.length := by omega
    have HI := Lib.hid h2
    have HP := Lib.hid (grF_parts (subB u 956) (subB u (usesP tl l i)) (nth tl i).li u li)
    clear hW0 h0 e h2
    generalize subB u 956 = s1 at HS1 HP ⊢
    generalize subB u (usesP tl l i) = s2 at HS2 HP ⊢
    rcases HP.out with ⟨rfl, hr⟩ | ⟨rfl, q1, hr⟩ | ⟨rfl, q1, q2, hr⟩ | ⟨rfl, q1, q2, rfl, hr⟩ | ⟨rfl, q1, q2, rfl, q3, q4, hr⟩ | ⟨rfl, q1, q2, rfl, q3, q4, q5, hr⟩ | ⟨rfl, q1, q2, rfl, q3, q4, q5, hr⟩ | ⟨rfl, q1, q2, rfl, q3, q5, hr⟩ | ⟨rfl, q1, q2, rfl, q3, q5, hr⟩
    all_goals
      rw [hr]
      clear hr HP
      go_enter Tryd.func29, Tryd.ntmps29
      go_wp2_with (first
        | (go_at_call 37; refine HX.out.mono ?_; rintro e w1 ⟨rfl, hb⟩; rw [← HW.out] at hb; obtain ⟨t0, t1, t2, t3, hbe, hg⟩ := HBX.out w1 hb; have HG := Lib.hid hg; have HBE := Lib.hid hbe; have HB := Lib.hid hb; obtain ⟨b, off, rfl, hbl, hrow⟩ := ((HT.out.on hb).cellsT) (by have := HI.out; omega); obtain ⟨d0, d1, d2⟩ := hrow i HI.out; clear hrow hb hbe hg)
        | (go_at_call 18; first
            | (refine (HS1.out _).mono ?_; rintro e w2 ⟨rfl, rfl⟩)
            | (refine (HS2.out _).mono ?_; rintro e w2 ⟨rfl, rfl⟩))
        | (go_at_call 27; refine (HUS.out _ HB.out).mono ?_; rintro e w3 ⟨rfl, hb3⟩; have hbx := HBX.out _ (HB.out.trans (hb3.mono HB.out.size)); have HG3 := Lib.hid hbx.2.2.2.2.2; have HBE3 := Lib.hid hbx.2.2.2.2.1; clear hb3 hbx)
        | (refine st_T (T := 49) (gc (0, 0, 1)) info_g rfl (.tmp 8) (.tmp 29) rfl _ (gc (0, 0, 0)) rfl rfl (one_3 _ _ _) rfl HG.out ?_; intro w4 hg4 hb4; have HH := Lib.hid (HBE.out.trans (hb4 _ (by omega))))
        | (refine st_T (T := 49) (gc (0, 0, 10)) info_g rfl (.tmp 8) (.tmp 52) rfl _ (gc (0, 0, 0)) rfl rfl (one_3 _ _ _) rfl HG3.out ?_; intro w4 hg4 hb4; have HH := Lib.hid (HBE3.out.trans (hb4 _ (by omega))))
        | (refine st_T (T := 49) (gc (u, (nth tl i).li, 0)) info_g rfl (.tmp 8) (.tmp 58) rfl _ (gc (0, 0, 0)) rfl rfl (one_3 _ _ _) rfl HG3.out ?_; intro w4 hg4 hb4; have HH := Lib.hid (HBE3.out.trans (hb4 _ (by omega))))
        | (refine st_T (T := 49) (gc (u, li, 0)) info_g rfl (.tmp 8) (.tmp 58) rfl _ (gc (0, 0, 0)) rfl rfl (one_3 _ _ _) rfl HG3.out ?_; intro w4 hg4 hb4; have HH := Lib.hid (HBE3.out.trans (hb4 _ (by omega)))))
      (try simp only [Exit.inBlock, Exit.then])
      refine bodyPost_ret (res_g 8 rfl _ _ (w.heap.size + 1) _ rfl hg4) rfl ?_
      exact ⟨rfl, HH.out⟩
end Go.Proofs.YtamdlkflcbefdaaDoor
