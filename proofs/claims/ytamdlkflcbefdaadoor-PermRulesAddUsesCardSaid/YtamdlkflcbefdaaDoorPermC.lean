/- Types and quorums: the first that a function value takes; Type. -/
import Derived.Test.YtamdlkflcbefdaaDoorPermB
import Derived.Shelf.GgClosure.Gives
namespace Go.Proofs.YtamdlkflcbefdaaDoor
open Go.RowKit Go.Shelf
set_option linter.unusedSimpArgs false
set_option linter.unusedVariables false
theorem below_row {w : World} {g B : Nat} {cs : Array Value} (h : B ≤ g) : Below B w (w.setRow g cs) :=
  ⟨rfl, rfl, rfl, by simp [World.setRow], fun k hk => by
    unfold World.setRow
    rw [Array.getElem?_modify]
    have : ¬ g = k := by omega
    simp [this]⟩
/-- a whole struct is stored -/
theorem st_T {T : TypeId} (cs : Array Value) (hinf : (Tryd.prog.info? T).map (·.size) = some cs.size) {ops : Array Oper} {rest : List Oper} {o : Oper} {a : Act} {w : World} {Q : Exit → Act → World → Prop} (hgd : o.guard = none) (x y : Operand) (ho : o.op = .store T x y)
    (g : Nat) (c0 : Array Value) (hx : a.eval x = .pointer (some ⟨g, 0, none⟩)) (hy : a.eval y = .agg cs) (hone : (cs.all fun u => u.oneCell') = true) (hsz : c0.size = cs.size)
    (hg : w.heap[g]? = some (.cells c0 T (0, 0)))
    (h : ∀ w', w'.heap[g]? = some (.cells cs T (0, 0)) → (∀ B, B ≤ g → Below B w w') → wpList Tryd.prog ops Q rest (a.put o.dst undef) w') : wpList Tryd.prog ops Q (o :: rest) a w :=
  wpList_store_row hgd _ x y ho g cs hx hy _ _ hg hinf hsz hone (h _ (setRow_heap _ _ _ _ _ _ hg) (fun B hB => below_row hB))
theorem cell2 (w : World) (A : Obj) (cs : Array Value) (T : TypeId) (j : Nat) : ((w.alloc A).alloc (.cells cs T)).cell? ⟨w.heap.size + 1, j, none⟩ = cs[j]? := by
  have h := cell_of_row ((w.alloc A).alloc (.cells cs T)) (w.alloc A).heap.size j cs T (0, 0) (heap_alloc_new _ _)
  rwa [World.size_alloc] at h
theorem cell3m (w : World) (A C : Obj) (cs : Array Value) (T : TypeId) (j : Nat) : (((w.alloc A).alloc (.cells cs T)).alloc C).cell? ⟨w.heap.size + 1, j, none⟩ = cs[j]? := by
  have h := (Below.refl ((w.alloc A).alloc (.cells cs T)).heap.size ((w.alloc A).alloc (.cells cs T))).alloc (Nat.le_refl _) C
  rw [h.cell (p := ⟨w.heap.size + 1, j, none⟩) (by simp)]
  exact cell2 w _ _ _ j
/-- a function value that answers p and leaves what was there -/
def PredT (g : Nat) (lb : Array Value) (p : TyP → Bool) (w : World) : Prop :=
  ∀ (W : World) (x : TyP), Below w.heap.size w W → Calls Tryd.prog g (#[.agg #[.string ⟨x.nm.toArray⟩, .int .i64 x.fl, .int .i64 x.li]] ++ lb) W fun e w' => e = .returned (.bool (p x)) ∧ Below w.heap.size w w'
def PredQ (g : Nat) (lb : Array Value) (p : QuP → Bool) (w : World) : Prop :=
  ∀ (W : World) (x : QuP), Below w.heap.size w W → Calls Tryd.prog g (#[.agg #[.int .i64 x.c, .int .i64 x.n, .int .i64 x.d, .int .i64 x.v, .int .i64 x.u]] ++ lb) W fun e w' => e = .returned (.bool (p x)) ∧ Below w.heap.size w w'
attribute [local irreducible] Calls
theorem type_pred (nm : List UInt8) (B : Nat) (w : World) (hB : B < w.heap.size) (h : w.cell? ⟨B, 0, none⟩ = some (.string ⟨nm.toArray⟩)) : PredT 33 #[.pointer (some ⟨B, 0, none⟩)] (fun x => x.nm == nm) w := fun W x hb => by
  have c0 : W.cell? ⟨B, 0, none⟩ = some (.string ⟨nm.toArray⟩) := by rw [hb.cell (p := ⟨B, 0, none⟩) hB]; exact h
  have hlt : B < W.heap.size := Nat.lt_of_lt_of_le hB hb.size
  have hne : B ≠ W.heap.size := by omega
  have HB := Lib.hid (fun X => hb.alloc hb.size X)
  clear hb h
  show Calls Tryd.prog 33 #[.agg #[.string ⟨x.nm.toArray⟩, .int .i64 x.fl, .int .i64 x.li], .pointer (some ⟨B, 0, none⟩)] W _
  go_enter Tryd.func33, Tryd.ntmps33
  go_wp2
  all_goals
    go_ret
    refine ⟨by simp_all, HB.out _⟩
theorem quorum_pred (c : Int) (B : Nat) (w : World) (hB : B < w.heap.size) (h : w.cell? ⟨B, 0, none⟩ = some (.int .i64 c)) : PredQ 35 #[.pointer (some ⟨B, 0, none⟩)] (fun x => x.c == c) w := fun W x hb => by
  have c0 : W.cell? ⟨B, 0, none⟩ = some (.int .i64 c) := by rw [hb.cell (p := ⟨B, 0, none⟩) hB]; exact h
  have hlt : B < W.heap.size := Nat.lt_of_lt_of_le hB hb.size
  have hne : B ≠ W.heap.size := by omega
  have HB := Lib.hid (fun X => hb.alloc hb.size X)
  clear hb h
  show Calls Tryd.prog 35 #[.agg #[.int .i64 x.c, .int .i64 x.n, .int .i64 x.d, .int .i64 x.v, .int .i64 x.u], .pointer (some ⟨B, 0, none⟩)] W _
  go_enter Tryd.func35, Tryd.ntmps35
  go_wp2
  all_goals
    go_ret
    refine ⟨by simp_all, HB.out _⟩
set_option maxHeartbeats 2000000 in
theorem indexFunc_t (v : Value) (l : List TyP) (g : Nat) (lb : Array Value) (p : TyP → Bool) (w : World) (eg : ∀ args w, (callFunc g args).run Tryd.prog w = .ok (.enter g args) w) (hv : RdE eT w v l) (hp : PredT g lb p w) :
    Calls Tryd.prog 32 #[v, .func (.func g) #[] lb] w fun e w' => e = .returned (.int .i64 (firstIx p l)) ∧ Below w.heap.size w w' := by
  have hlen := hv.len
  unfold maxLen at hlen
  have HV := Lib.hid hv
  have HP := Lib.hid hp
  obtain ⟨a, cap, rfl, _, _, _⟩ := hv
  clear hp
  go_enter Tryd.func32, Tryd.ntmps32
  go_wp2
  go_loopw [8] (fun o wr => ∃ k : Nat, k ≤ l.length ∧ o = .int .i64 k ∧ Hid (∀ j, j < k → p (nth l j) = false) ∧ Below w.heap.size w wr) (fun o _ => l.length - (intOf o).toNat)
  case atStart => exact ⟨0, Nat.zero_le _, rfl, Lib.hid (fun j hj => absurd hj (by omega)), Below.refl _ _⟩
  case round =>
    obtain ⟨k, hk, rfl, hno, hb⟩ := hrel
    by_cases hlt : k < l.length
    · obtain ⟨b, off, rfl, hbl, hrow⟩ := ((HV.out.on hb).cellsT) (by omega)
      have hl2 := hrow k hlt
      have hcall := HP.out wr (nth l k) hb
      have i1 : (k : Int) < l.length := by omega
      have HK := Lib.hid hlt
      have HX : Hid (∀ j, j < k + 1 → j ≠ k → p (nth l j) = false) := Lib.hid (fun j hj hne => hno.out j (by omega))
      have HH := Lib.hid (fun h => firstIx_hit p l k hlt hno.out h)
      clear hrow hno hb
      generalize hy : (nth l k) = y at hl2 hcall HH
      obtain ⟨d0, d1, d2⟩ := hl2
      have HY := Lib.hid hy
      clear hy
      cases hq : p y with
      | true =>
        rw [hq] at hcall
        have r := HH.out hq
        have HC := Lib.hid hcall
        clear hcall
        go_wp2_with (go_at_fn g; refine HC.out.mono ?_; rintro e w1 ⟨rfl, hb'⟩)
        go_ret
        exact ⟨by rw [r]; rfl, hb'⟩
      | false =>
        rw [hq] at hcall
        have HC := Lib.hid hcall
        have HQ := Lib.hid hq
        clear hcall hq
        go_wp2_with (go_at_fn g; refine HC.out.mono ?_; rintro e w1 ⟨rfl, hb'⟩)
        go_roundw
        case rel => exact ⟨k + 1, HK.out, by go_num, Lib.hid (fun j hj => by
          by_cases e : j = k
          · subst e; rw [HY.out]; exact HQ.out
          · exact HX.out j hj e), hb'⟩
        case measure => have := HK.out; simp [intOf]; omega
    · have he : k = l.length := by omega
      have i1 : (l.length : Int) ≤ k := by omega
      have hm := firstIx_miss p l (fun j hj => hno.out j (by omega))
      have HM := Lib.hid hm
      clear hm hno he
      go_wp2
      go_ret
      exact ⟨by rw [HM.out]; rfl, hb⟩
set_option maxHeartbeats 2000000 in
theorem indexFunc_q (v : Value) (l : List QuP) (g : Nat) (lb : Array Value) (p : QuP → Bool) (w : World) (eg : ∀ args w, (callFunc g args).run Tryd.prog w = .ok (.enter g args) w) (hv : RdE eQ w v l) (hp : PredQ g lb p w) :
    Calls Tryd.prog 34 #[v, .func (.func g) #[] lb] w fun e w' => e = .returned (.int .i64 (firstIx p l)) ∧ Below w.heap.size w w' := by
  have hlen := hv.len
  unfold maxLen at hlen
  have HV := Lib.hid hv
  have HP := Lib.hid hp
  obtain ⟨a, cap, rfl, _, _, _⟩ := hv
  clear hp
  go_enter Tryd.func34, Tryd.ntmps34
  go_wp2
  go_loopw [8] (fun o wr => ∃ k : Nat, k ≤ l.length ∧ o = .int .i64 k ∧ Hid (∀ j, j < k → p (nth l j) = false) ∧ Below w.heap.size w wr) (fun o _ => l.length - (intOf o).toNat)
  case atStart => exact ⟨0, Nat.zero_le _, rfl, Lib.hid (fun j hj => absurd hj (by omega)), Below.refl _ _⟩
  case round =>
    obtain ⟨k, hk, rfl, hno, hb⟩ := hrel
    by_cases hlt : k < l.length
    · obtain ⟨b, off, rfl, hbl, hrow⟩ := ((HV.out.on hb).cellsQ) (by omega)
      have hl2 := hrow k hlt
      have hcall := HP.out wr (nth l k) hb
      have i1 : (k : Int) < l.length := by omega
      have HK := Lib.hid hlt
      have HX : Hid (∀ j, j < k + 1 → j ≠ k → p (nth l j) = false) := Lib.hid (fun j hj hne => hno.out j (by omega))
      have HH := Lib.hid (fun h => firstIx_hit p l k hlt hno.out h)
      clear hrow hno hb
      generalize hy : (nth l k) = y at hl2 hcall HH
      obtain ⟨d0, d1, d2, d3, d4⟩ := hl2
      have HY := Lib.hid hy
      clear hy
      cases hq : p y with
      | true =>
        rw [hq] at hcall
        have r := HH.out hq
        have HC := Lib.hid hcall
        clear hcall
        go_wp2_with (go_at_fn g; refine HC.out.mono ?_; rintro e w1 ⟨rfl, hb'⟩)
        go_ret
        exact ⟨by rw [r]; rfl, hb'⟩
      | false =>
        rw [hq] at hcall
        have HC := Lib.hid hcall
        have HQ := Lib.hid hq
        clear hcall hq
        go_wp2_with (go_at_fn g; refine HC.out.mono ?_; rintro e w1 ⟨rfl, hb'⟩)
        go_roundw
        case rel => exact ⟨k + 1, HK.out, by go_num, Lib.hid (fun j hj => by
          by_cases e : j = k
          · subst e; rw [HY.out]; exact HQ.out
          · exact HX.out j hj e), hb'⟩
        case measure => have := HK.out; simp [intOf]; omega
    · have he : k = l.length := by omega
      have i1 : (l.length : Int) ≤ k := by omega
      have hm := firstIx_miss p l (fun j hj => hno.out j (by omega))
      have HM := Lib.hid hm
      clear hm hno he
      go_wp2
      go_ret
      exact ⟨by rw [HM.out]; rfl, hb⟩

theorem eg_t : ∀ args w, (callFunc 33 args).run Tryd.prog w = .ok (.enter 33 args) w := enters_of Tryd.func33 (by kernel_rfl) rfl
theorem eg_q : ∀ args w, (callFunc 35 args).run Tryd.prog w = .ok (.enter 35 args) w := enters_of Tryd.func35 (by kernel_rfl) rfl
/-- the first type of a name -/
def tyIx (l : List TyP) (nm : List UInt8) : Int := firstIx (fun x => x.nm == nm) l
set_option maxHeartbeats 2000000 in
theorem type_c (s : ByteArray) (vt vr vq : Value) (l : List TyP) (nm : List UInt8) (w : World) (hv : RdE eT w vt l) :
    Calls Tryd.prog 11 #[.agg #[.string s, vt, vr, vq], .string ⟨nm.toArray⟩] w fun e w' => e = .returned (.tuple #[.int .i64 (max (tyIx l nm) 0), .bool (decide (0 ≤ tyIx l nm))]) ∧ Below w.heap.size w w' := by
  have hmf : ∀ (fn : Fn) (first cap : Array Value) (w : World), (Instr.makeFunc fn first cap).run Tryd.prog w = .ok (.func fn first cap) w := fun _ _ _ _ => rfl
  have hcon := indexFunc_t vt l 33 #[.pointer (some ⟨w.heap.size + 1, 0, none⟩)] (fun x => x.nm == nm) ((w.alloc (.cells #[.string s, vt, vr, vq] 26)).alloc (.cells #[.string ⟨nm.toArray⟩] 9)) eg_t
    ((hv.alloc _).alloc _) (type_pred nm (w.heap.size + 1) _ (by simp) (cell2 w _ _ _ 0))
  have HC := Lib.hid hcon
  have HP := Lib.hid (firstIx_parts (fun x => x.nm == nm) l)
  clear hcon
  obtain ⟨a, cap, rfl, _, _, _⟩ := hv
  unfold tyIx
  rcases HP.out with ⟨h, _⟩ | ⟨i, _, h, _⟩
  · rw [h] at HC ⊢
    go_enter Tryd.func11, Tryd.ntmps11
    go_wp2_with (go_at_call 32; refine HC.out.mono ?_; rintro e w1 ⟨rfl, hb⟩)
    go_ret2
    exact ⟨rfl, below2 _ _ _ hb⟩
  · rw [h] at HC ⊢
    have i1 : (0 : Int) ≤ i := by omega
    have i2 : max (i : Int) 0 = i := by omega
    have i3 : decide ((0 : Int) ≤ i) = true := by simp
    rw [i2, i3]
    go_enter Tryd.func11, Tryd.ntmps11
    go_wp2_with (go_at_call 32; refine HC.out.mono ?_; rintro e w1 ⟨rfl, hb⟩)
    go_ret2
    exact ⟨rfl, below2 _ _ _ hb⟩
end Go.Proofs.YtamdlkflcbefdaaDoor
