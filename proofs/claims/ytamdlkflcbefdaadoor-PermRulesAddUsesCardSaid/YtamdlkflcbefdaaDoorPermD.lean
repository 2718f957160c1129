/- The specification's Type; Quorum, both. -/
import Derived.Test.YtamdlkflcbefdaaDoorPermC
namespace Go.Proofs.YtamdlkflcbefdaaDoor
open Go.RowKit Go.Shelf
set_option linter.unusedSimpArgs false
set_option linter.unusedVariables false
theorem info_q : (Tryd.prog.info? 33).map (·.size) = some 5 := by kernel_rfl
attribute [local irreducible] Calls
set_option maxHeartbeats 2000000 in
theorem type_r (s : ByteArray) (vt vr vq : Value) (l : List TyP) (nm : List UInt8) (w : World) (hv : RdE eT w vt l) :
    Calls Tryd.prog 12 #[.agg #[.string s, vt, vr, vq], .string ⟨nm.toArray⟩] w fun e w' => e = .returned (.tuple #[.int .i64 (max (tyIx l nm) 0), .bool (decide (0 ≤ tyIx l nm))]) ∧ Below w.heap.size w w' := by
  have hlen := hv.len
  unfold maxLen at hlen
  have HV := Lib.hid (hv.alloc (.cells #[.string s, vt, vr, vq] 26))
  obtain ⟨a, cap, rfl, _, _, _⟩ := hv
  have HBX := Lib.hid (fun w1 h => boxed1 w #[.string s, .slice a l.length cap, vr, vq] 26 (w1 := w1) h 1)
  go_enter Tryd.func12, Tryd.ntmps12
  go_wp2
  go_loopw [6] (fun o wr => ∃ k : Nat, k ≤ l.length ∧ o = .int .i64 k ∧ Hid (∀ j, j < k → ((nth l j).nm == nm) = false) ∧ Below (w.alloc (.cells #[.string s, .slice a l.length cap, vr, vq] 26)).heap.size (w.alloc (.cells #[.string s, .slice a l.length cap, vr, vq] 26)) wr) (fun o _ => l.length - (intOf o).toNat)
  case atStart => exact ⟨0, Nat.zero_le _, rfl, Lib.hid (fun j hj => absurd hj (by omega)), Below.refl _ _⟩
  case round =>
    obtain ⟨k, hk, rfl, hno, hb⟩ := hrel
    have t1 : wr.cell? ⟨w.heap.size, 1, none⟩ = some (.slice a l.length cap) := HBX.out wr hb
    by_cases hlt : k < l.length
    · obtain ⟨b, off, rfl, hbl, hrow⟩ := ((HV.out.on hb).cellsT) (by omega)
      obtain ⟨d0, d1, d2⟩ := hrow k hlt
      have i1 : (k : Int) < l.length := by omega
      have HK := Lib.hid hlt
      have HX : Hid (∀ j, j < k + 1 → j ≠ k → ((nth l j).nm == nm) = false) := Lib.hid (fun j hj hne => hno.out j (by omega))
      have HH := Lib.hid (fun h => firstIx_hit (fun x => x.nm == nm) l k hlt hno.out h)
      have HB := Lib.hid hb
      clear hrow hno hb
      cases hq : (nth l k).nm == nm with
      | true =>
        have r : tyIx l nm = k := HH.out hq
        have i2 : max (k : Int) 0 = k := by omega
        have i3 : decide ((0 : Int) ≤ k) = true := by simp
        have e : (nth l k).nm = nm := by simpa using hq
        rw [e] at d0
        have HR := Lib.hid r
        clear e hq r
        go_wp2
        go_ret2
        refine ⟨?_, below1 _ _ HB.out⟩
        rw [HR.out, i2, i3]; rfl
      | false =>
        have HQ := Lib.hid hq
        go_wp2
        go_roundw
        case rel => exact ⟨k + 1, HK.out, by go_num, Lib.hid (fun j hj => by
          by_cases e : j = k
          · subst e; exact HQ.out
          · exact HX.out j hj e), HB.out⟩
        case measure => have := HK.out; simp [intOf]; omega
    · have he : k = l.length := by omega
      have i1 : (l.length : Int) ≤ k := by omega
      have hm : tyIx l nm = -1 := firstIx_miss (fun x : TyP => x.nm == nm) l (fun j hj => hno.out j (by omega))
      have HM := Lib.hid hm
      clear hm hno he
      go_wp2
      go_ret2
      exact ⟨by rw [HM.out]; rfl, below1 _ _ hb⟩
theorem res_q {fn : Func} (p q : Tmp) (h : fn.results = #[.cell p 33, .tmp q]) (tmps : Array Value) (w : World) (g : Nat) (x : QuP) (b : Bool)
    (hp : tmps.getD p undef = .pointer (some ⟨g, 0, none⟩)) (hq : tmps.getD q undef = .bool b) (hg : w.heap[g]? = some (.cells #[.int .i64 x.c, .int .i64 x.n, .int .i64 x.d, .int .i64 x.v, .int .i64 x.u] 33 (0, 0))) :
    (results fn tmps).run Tryd.prog w = .ok (.tuple #[.agg #[.int .i64 x.c, .int .i64 x.n, .int .i64 x.d, .int .i64 x.v, .int .i64 x.u], .bool b]) w := by
  have hp' : tmps[p]?.getD undef = .pointer (some ⟨g, 0, none⟩) := by simpa using hp
  have hq' : tmps[q]?.getD undef = .bool b := by simpa using hq
  simp [results, h, hp', hq', asAddr, run_loadVar_row w g 33 33 _ (0, 0) _ hg Tryd.underlying33 rfl info_q]
/-- the quorum of a command -/
def quIx (l : List QuP) (c : Int) : Int := firstIx (fun x => x.c == c) l
def quP (l : List QuP) (c : Int) : QuP := if 0 ≤ quIx l c then nth l (quIx l c).toNat else ⟨0, 0, 0, 0, 0⟩
theorem quP_parts (l : List QuP) (c : Int) : (quIx l c = -1 ∧ quP l c = ⟨0, 0, 0, 0, 0⟩ ∧ decide (0 ≤ quIx l c) = false ∧ ∀ j, j < l.length → ((nth l j).c == c) = false) ∨
    (∃ i : Nat, i < l.length ∧ quIx l c = i ∧ quP l c = nth l i ∧ decide (0 ≤ quIx l c) = true ∧ ((nth l i).c == c) = true ∧ ∀ j, j < i → ((nth l j).c == c) = false) := by
  rcases firstIx_parts (fun x : QuP => x.c == c) l with ⟨h, h2⟩ | ⟨i, hi, h, h2, h3⟩
  · have h' : quIx l c = -1 := h
    exact .inl ⟨h', by unfold quP; rw [h', if_neg (by omega)], by rw [h']; rfl, h2⟩
  · have h' : quIx l c = i := h
    exact .inr ⟨i, hi, h', by unfold quP; rw [h', if_pos (by omega)]; rfl, by rw [h']; simp, h2, h3⟩
/-- its cells -/
abbrev qc (x : QuP) : Array Value := #[.int .i64 x.c, .int .i64 x.n, .int .i64 x.d, .int .i64 x.v, .int .i64 x.u]
theorem one_int (n : Int) : (Value.int .i64 n).oneCell' = true := rfl
theorem one_q (x : QuP) : ((qc x).all fun u => u.oneCell') = true := by simp [qc, one_int]
theorem qu_hook (w : World) (A : Obj) (c : Int) (Z : Array Value) {w1 : World} (hb : Below (((w.alloc A).alloc (.cells #[.int .i64 c] 3)).alloc (.cells Z 33)).heap.size (((w.alloc A).alloc (.cells #[.int .i64 c] 3)).alloc (.cells Z 33)) w1) :
    w1.heap[w.heap.size + 1 + 1]? = some (.cells Z 33 (0, 0)) := by
  rw [hb.block _ (by simp)]
  have h := heap_alloc_new ((w.alloc A).alloc (.cells #[.int .i64 c] 3)) (.cells Z 33)
  simpa using h
set_option maxHeartbeats 4000000 in
theorem quorum_c (s : ByteArray) (vt vr vq : Value) (l : List QuP) (c : Int) (w : World) (hv : RdE eQ w vq l) :
    Calls Tryd.prog 13 #[.agg #[.string s, vt, vr, vq], .int .i64 c] w fun e w' => e = .returned (.tuple #[.agg (qc (quP l c)), .bool (decide (0 ≤ quIx l c))]) ∧ Below w.heap.size w w' := by
  have hmf : ∀ (fn : Fn) (first cap : Array Value) (w : World), (Instr.makeFunc fn first cap).run Tryd.prog w = .ok (.func fn first cap) w := fun _ _ _ _ => rfl
  have hlen := hv.len
  unfold maxLen at hlen
  have hcon := indexFunc_q vq l 35 #[.pointer (some ⟨w.heap.size + 1, 0, none⟩)] (fun x => x.c == c) (((w.alloc (.cells #[.string s, vt, vr, vq] 26)).alloc (.cells #[.int .i64 c] 3)).alloc (.cells #[.int .i64 0, .int .i64 0, .int .i64 0, .int .i64 0, .int .i64 0] 33)) eg_q
    (((hv.alloc _).alloc _).alloc _) (quorum_pred c (w.heap.size + 1) _ (by simp) (cell3m w _ _ _ _ 0))
  have HC := Lib.hid hcon
  have HV := Lib.hid (((hv.alloc (.cells #[.string s, vt, vr, vq] 26)).alloc (.cells #[.int .i64 c] 3)).alloc (.cells #[.int .i64 0, .int .i64 0, .int .i64 0, .int .i64 0, .int .i64 0] 33))
  have HP := Lib.hid (quP_parts l c)
  clear hcon
  obtain ⟨a, cap, rfl, _, _, _⟩ := hv
  have HBX := Lib.hid (fun w1 h => boxed3 w #[.string s, vt, vr, .slice a l.length cap] 26 (.cells #[.int .i64 c] 3) (.cells #[.int .i64 0, .int .i64 0, .int .i64 0, .int .i64 0, .int .i64 0] 33) (w1 := w1) h 3)
  have e0 : firstIx (fun x : QuP => x.c == c) l = quIx l c := rfl
  rw [e0] at HC
  rcases HP.out with ⟨h, h2, h3, _⟩ | ⟨i, hi, h, h2, h3, _⟩
  · rw [h2, h3]
    rw [h] at HC
    clear e0 h h2 h3
    go_enter Tryd.func13, Tryd.ntmps13
    go_wp2_with (first
      | (go_at_call 34; refine HC.out.mono ?_; rintro e w1 ⟨rfl, hb⟩; have hg := qu_hook _ _ _ _ hb; have HG := Lib.hid hg; clear hg)
      | (refine st_T (T := 33) (qc ⟨0, 0, 0, 0, 0⟩) info_q rfl (.tmp 4) (.tmp 13) rfl _ _ rfl rfl (one_q _) rfl HG.out ?_; intro w2 hg2 hb2))
    (try simp only [Exit.inBlock, Exit.then])
    refine bodyPost_ret (res_q 4 5 rfl _ _ (w.heap.size + 1 + 1) ⟨0, 0, 0, 0, 0⟩ false rfl rfl hg2) rfl ?_
    exact ⟨rfl, (below3 _ _ _ _ hb).trans (hb2 _ (by omega))⟩
  · rw [h2, h3]
    rw [h] at HC
    have i1 : (i : Int) < l.length := by omega
    have i2 : ¬ (i : Int) < 0 := by omega
    have HI := Lib.hid hi
    clear e0 h h2 h3 hi
    go_enter Tryd.func13, Tryd.ntmps13
    go_wp2_with (first
      | (go_at_call 34; refine HC.out.mono ?_; rintro e w1 ⟨rfl, hb⟩; have hg := qu_hook _ _ _ _ hb; have HG := Lib.hid hg; clear hg; obtain ⟨b, off, rfl, hbl, hrow⟩ := ((HV.out.on hb).cellsQ) (by have := HI.out; omega); obtain ⟨d0, d1, d2, d3, d4⟩ := hrow i HI.out; have t3 := HBX.out w1 hb; clear hrow)
      | (refine st_T (T := 33) (qc (nth l i)) info_q rfl (.tmp 4) (.tmp 18) rfl _ (qc ⟨0, 0, 0, 0, 0⟩) rfl rfl (one_q _) rfl HG.out ?_; intro w2 hg2 hb2))
    (try simp only [Exit.inBlock, Exit.then])
    refine bodyPost_ret (res_q 4 5 rfl _ _ (w.heap.size + 1 + 1) (nth l i) true rfl rfl hg2) rfl ?_
    exact ⟨rfl, (below3 _ _ _ _ hb).trans (hb2 _ (by omega))⟩
theorem qu_hook2 (w : World) (A : Obj) (Z : Array Value) {w1 : World} (hb : Below ((w.alloc A).alloc (.cells Z 33)).heap.size ((w.alloc A).alloc (.cells Z 33)) w1) :
    w1.heap[w.heap.size + 1]? = some (.cells Z 33 (0, 0)) := by
  rw [hb.block _ (by simp)]
  have h := heap_alloc_new (w.alloc A) (.cells Z 33)
  simpa using h
set_option maxHeartbeats 4000000 in
theorem quorum_r (s : ByteArray) (vt vr vq : Value) (l : List QuP) (c : Int) (w : World) (hv : RdE eQ w vq l) :
    Calls Tryd.prog 14 #[.agg #[.string s, vt, vr, vq], .int .i64 c] w fun e w' => e = .returned (.tuple #[.agg (qc (quP l c)), .bool (decide (0 ≤ quIx l c))]) ∧ Below w.heap.size w w' := by
  have hlen := hv.len
  unfold maxLen at hlen
  obtain ⟨W0, hW0⟩ : ∃ W0, W0 = ((w.alloc (.cells #[.string s, vt, vr, vq] 26)).alloc (.cells #[.int .i64 0, .int .i64 0, .int .i64 0, .int .i64 0, .int .i64 0] 33)) := ⟨_, rfl⟩
  have HV : Hid (RdE eQ W0 vq l) := Lib.hid (by rw [hW0]; exact (hv.alloc _).alloc _)
  have HBX : Hid (∀ w1, Below W0.heap.size W0 w1 → w1.cell? ⟨w.heap.size, 3, none⟩ = some vq ∧ w1.heap[w.heap.size + 1]? = some (.cells #[.int .i64 0, .int .i64 0, .int .i64 0, .int .i64 0, .int .i64 0] 33 (0, 0)) ∧ Below w.heap.size w w1) :=
    Lib.hid (fun w1 h => by rw [hW0] at h; exact ⟨boxed2 _ _ _ _ h 3, qu_hook2 _ _ _ h, below2 _ _ _ h⟩)
  have HP := Lib.hid (quP_parts l c)
  obtain ⟨a, cap, rfl, _, _, _⟩ := hv
  have HW := Lib.hid hW0
  clear hW0
  go_enter Tryd.func14, Tryd.ntmps14
  go_wp2
  go_loopw [6] (fun o wr => ∃ k : Nat, k ≤ l.length ∧ o = .int .i64 k ∧ Hid (∀ j, j < k → ((nth l j).c == c) = false) ∧ Below W0.heap.size W0 wr) (fun o _ => l.length - (intOf o).toNat)
  case atStart => exact ⟨0, Nat.zero_le _, rfl, Lib.hid (fun j hj => absurd hj (by omega)), by rw [HW.out]; exact Below.refl _ _⟩
  case round =>
    obtain ⟨k, hk, rfl, hno, hb⟩ := hrel
    obtain ⟨t1, hg, hbe⟩ := HBX.out wr hb
    have HG := Lib.hid hg
    have HBE := Lib.hid hbe
    clear hg hbe
    by_cases hlt : k < l.length
    · obtain ⟨b, off, rfl, hbl, hrow⟩ := ((HV.out.on hb).cellsQ) (by omega)
      obtain ⟨d0, d1, d2, d3, d4⟩ := hrow k hlt
      have i1 : (k : Int) < l.length := by omega
      have HK := Lib.hid hlt
      have HX : Hid (∀ j, j < k + 1 → j ≠ k → ((nth l j).c == c) = false) := Lib.hid (fun j hj hne => hno.out j (by omega))
      have HNO := Lib.hid hno.out
      have HB := Lib.hid hb
      clear hrow hno hb
      cases hq : (nth l k).c == c with
      | true =>
        have hres : quP l c = nth l k ∧ decide (0 ≤ quIx l c) = true := by
          rcases HP.out with ⟨_, _, _, h4⟩ | ⟨j, hj, _, h2, h3, h5, h6⟩
          · rw [h4 k hlt] at hq; cases hq
          · have : j = k := by
              rcases Nat.lt_trichotomy j k with h | h | h
              · have := HNO.out j h; rw [h5] at this; cases this
              · exact h
              · have := h6 k h; rw [hq] at this; cases this
            subst this
            exact ⟨h2, h3⟩
        have HR := Lib.hid hres
        clear hres
        go_wp2_with (refine st_T (T := 33) (qc (nth l k)) info_q rfl (.tmp 4) (.tmp 26) rfl _ (qc ⟨0, 0, 0, 0, 0⟩) rfl rfl (one_q _) rfl HG.out ?_; intro w2 hg2 hb2)
        (try simp only [Exit.inBlock, Exit.then, Exit.noGoto_ret])
        refine bodyPost_ret (res_q 4 5 rfl _ _ (w.heap.size + 1) (nth l k) true rfl rfl hg2) rfl ?_
        exact ⟨by rw [HR.out.1, HR.out.2], HBE.out.trans (hb2 _ (by omega))⟩
      | false =>
        have HQ := Lib.hid hq
        go_wp2
        go_roundw
        case rel => exact ⟨k + 1, HK.out, by go_num, Lib.hid (fun j hj => by
          by_cases e : j = k
          · subst e; exact HQ.out
          · exact HX.out j hj e), HB.out⟩
        case measure => have := HK.out; simp [intOf]; omega
    · have he : k = l.length := by omega
      have i1 : (l.length : Int) ≤ k := by omega
      have hres : quP l c = ⟨0, 0, 0, 0, 0⟩ ∧ decide (0 ≤ quIx l c) = false := by
        rcases HP.out with ⟨_, h2, h3, h4⟩ | ⟨j, hj, _, h2, h3, h5, h6⟩
        · exact ⟨h2, h3⟩
        · have := hno.out j (by omega); rw [h5] at this; cases this
      have HR := Lib.hid hres
      clear hno he hres
      go_wp2_with (refine st_T (T := 33) (qc ⟨0, 0, 0, 0, 0⟩) info_q rfl (.tmp 4) (.tmp 27) rfl _ (qc ⟨0, 0, 0, 0, 0⟩) rfl rfl (one_q _) rfl HG.out ?_; intro w2 hg2 hb2)
      (try simp only [Exit.inBlock, Exit.then, Exit.noGoto_ret])
      refine bodyPost_ret (res_q 4 5 rfl _ _ (w.heap.size + 1) ⟨0, 0, 0, 0, 0⟩ false rfl rfl hg2) rfl ?_
      exact ⟨by rw [HR.out.1, HR.out.2], HBE.out.trans (hb2 _ (by omega))⟩
end Go.Proofs.YtamdlkflcbefdaaDoor
