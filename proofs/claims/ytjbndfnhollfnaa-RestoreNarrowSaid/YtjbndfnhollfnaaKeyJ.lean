/- Lists of numbers; the backup's bounds. -/
import Derived.Test.YtjbndfnhollfnaaKeyI
namespace Go.Proofs.Ytjbndfnhollfnaa
open Go.RowKit Go.Shelf
set_option linter.unusedSimpArgs false
set_option linter.unusedVariables false
def intAt (l : List Int) (j : Nat) : Int := l.getD j 0
theorem intAt_eq (l : List Int) (j : Nat) (h : j < l.length) : intAt l j = l[j] := by simp [intAt, h]
/-- v is a slice with the numbers l in world w -/
def RdI (w : World) (v : Value) (l : List Int) : Prop :=
  ∃ a cap, v = .slice a l.length cap ∧ l.length ≤ cap ∧ cap ≤ maxLen ∧
    (0 < l.length → ∃ b off, a = some ⟨b, off, none⟩ ∧ b < w.heap.size ∧ ∀ i, i < l.length → w.cell? ⟨b, off + i, none⟩ = some (.int .i64 (intAt l i)))
theorem RdI.keep {w w' : World} {v : Value} {l : List Int} {B : Nat} (h : RdI w v l) (hb : Below B w w') (hB : w.heap.size ≤ B) : RdI w' v l := by
  obtain ⟨a, cap, rfl, h1, h2, h3⟩ := h
  refine ⟨a, cap, rfl, h1, h2, fun h0 => ?_⟩
  obtain ⟨b, off, rfl, hlt, hc⟩ := h3 h0
  refine ⟨b, off, rfl, Nat.lt_of_lt_of_le hlt hb.size, fun i hi => ?_⟩
  rw [hb.cell (p := ⟨b, off + i, none⟩) (Nat.lt_of_lt_of_le hlt hB)]
  exact hc i hi
theorem RdI.on {w w' : World} {v : Value} {l : List Int} (h : RdI w v l) (hb : Below w.heap.size w w') : RdI w' v l := h.keep hb (Nat.le_refl _)
theorem RdI.alloc {w : World} {v : Value} {l : List Int} (h : RdI w v l) (X : Obj) : RdI (w.alloc X) v l := h.on ((Below.refl w.heap.size w).alloc (Nat.le_refl _) X)
theorem RdI.nil (w : World) : RdI w (.slice none 0 0) [] := ⟨none, 0, rfl, Nat.le_refl _, by unfold maxLen; omega, fun h => absurd h (by simp)⟩
theorem RdI.cells {w : World} {a : Option Addr} {n cap : Nat} {l : List Int} (h : RdI w (.slice a n cap) l) : 0 < l.length → ∃ b off, a = some ⟨b, off, none⟩ ∧ b < w.heap.size ∧ ∀ j, j < l.length → w.cell? ⟨b, off + j, none⟩ = some (.int .i64 (intAt l j)) := by
  obtain ⟨a', c', e, _, _, h3⟩ := h
  cases e
  exact h3
theorem RdI.len {w : World} {v : Value} {l : List Int} (h : RdI w v l) : l.length ≤ maxLen := by
  obtain ⟨a, cap, rfl, h1, h2, h3⟩ := h
  omega
theorem built_i (w : World) (l : List Int) (h : l.length ≤ 1000) : RdI (w.alloc (.cells (l.map (Value.int .i64)).toArray 3)) (.slice (some ⟨w.heap.size, 0, none⟩) l.length l.length) l :=
  ⟨_, _, rfl, Nat.le_refl _, by unfold maxLen; omega, fun _ => ⟨w.heap.size, 0, rfl, by simp, fun i hi => by
    rw [Nat.zero_add, cell_of_row _ _ _ _ _ _ (heap_alloc_new _ _)]
    simp [intAt, hi]⟩⟩
def firstI (p : Int → Bool) (l : List Int) : Int := match l.findIdx? p with | some i => (i : Int) | none => -1
theorem firstI_hit (p : Int → Bool) (l : List Int) (k : Nat) (hk : k < l.length) (h : ∀ j, j < k → p (intAt l j) = false) (hp : p (intAt l k) = true) : firstI p l = k := by
  have : l.findIdx? p = some k := by
    rw [List.findIdx?_eq_some_iff_getElem]
    refine ⟨hk, by rw [← intAt_eq l k hk]; exact hp, fun j hj => ?_⟩
    have := h j hj
    rw [intAt_eq l j (by omega)] at this
    simpa using this
  rw [firstI, this]
theorem firstI_miss (p : Int → Bool) (l : List Int) (h : ∀ j, j < l.length → p (intAt l j) = false) : firstI p l = -1 := by
  have : l.findIdx? p = none := by
    rw [List.findIdx?_eq_none_iff]
    intro x hx
    obtain ⟨i, hi, rfl⟩ := List.mem_iff_getElem.1 hx
    have := h i hi
    rw [intAt_eq l i hi] at this
    exact this
  rw [firstI, this]
theorem firstI_any (p : Int → Bool) (l : List Int) : decide (0 ≤ firstI p l) = l.any p := by
  unfold firstI
  cases h : l.findIdx? p with
  | none =>
    rw [List.findIdx?_eq_none_iff] at h
    have : l.any p = false := by
      rw [List.any_eq_false]
      intro x hx
      simpa using h x hx
    rw [this]; rfl
  | some i =>
    rw [List.findIdx?_eq_some_iff_getElem] at h
    obtain ⟨hi, hp, _⟩ := h
    have : l.any p = true := List.any_eq_true.2 ⟨_, List.getElem_mem hi, hp⟩
    rw [this]
    simp
def PredI (g : Nat) (lb : Array Value) (p : Int → Bool) (w : World) : Prop :=
  ∀ (W : World) (x : Int), Below w.heap.size w W → Calls Try.prog g (#[.int .i64 x] ++ lb) W fun e w' => e = .returned (.bool (p x)) ∧ Below w.heap.size w w'
attribute [local irreducible] Calls
set_option maxHeartbeats 2000000 in
theorem indexFunc_i (v : Value) (l : List Int) (g : Nat) (lb : Array Value) (p : Int → Bool) (w : World) (eg : ∀ args w, (callFunc g args).run Try.prog w = .ok (.enter g args) w) (hv : RdI w v l) (hp : PredI g lb p w) :
    Calls Try.prog 53 #[v, .func (.func g) #[] lb] w fun e w' => e = .returned (.int .i64 (firstI p l)) ∧ Below w.heap.size w w' := by
  have hlen := hv.len
  unfold maxLen at hlen
  have HV := Lib.hid hv
  have HP := Lib.hid hp
  obtain ⟨a, cap, rfl, _, _, _⟩ := hv
  clear hp
  go_enter Try.func53, Try.ntmps53
  go_wp2
  go_loopw [8] (fun o wr => ∃ k : Nat, k ≤ l.length ∧ o = .int .i64 k ∧ Hid (∀ j, j < k → p (intAt l j) = false) ∧ Below w.heap.size w wr) (fun o _ => l.length - (intOf o).toNat)
  case atStart => exact ⟨0, Nat.zero_le _, rfl, Lib.hid (fun j hj => absurd hj (by omega)), Below.refl _ _⟩
  case round =>
    obtain ⟨k, hk, rfl, hno, hb⟩ := hrel
    by_cases hlt : k < l.length
    · obtain ⟨b, off, rfl, hbl, hrow⟩ := ((HV.out.on hb).cells) (by omega)
      have d0 := hrow k hlt
      have hcall := HP.out wr (intAt l k) hb
      have i1 : (k : Int) < l.length := by omega
      have HK := Lib.hid hlt
      have HX : Hid (∀ j, j < k + 1 → j ≠ k → p (intAt l j) = false) := Lib.hid (fun j hj hne => hno.out j (by omega))
      have HH := Lib.hid (fun h => firstI_hit p l k hlt hno.out h)
      clear hrow hno hb
      generalize hy : intAt l k = y at d0 hcall HH
      have HY := Lib.hid hy
      clear hy
      cases hq : p y with
      | true =>
        rw [hq] at hcall
        have r := HH.out hq
        have HC := Lib.hid hcall
        clear hcall
        go_wp2_with (go_at_fn g; refine HC.out.mono ?_; rintro e w1 ⟨rfl, hb'⟩)
        go_ret
        exact ⟨by rw [r]; rfl, hb'⟩
      | false =>
        rw [hq] at hcall
        have HC := Lib.hid hcall
        have HQ := Lib.hid hq
        clear hcall hq
        go_wp2_with (go_at_fn g; refine HC.out.mono ?_; rintro e w1 ⟨rfl, hb'⟩)
        go_roundw
        case rel => exact ⟨k + 1, HK.out, by go_num, Lib.hid (fun j hj => by
          by_cases e : j = k
          · subst e; rw [HY.out]; exact HQ.out
          · exact HX.out j hj e), hb'⟩
        case measure => have := HK.out; simp [intOf]; omega
    · have he : k = l.length := by omega
      have i1 : (l.length : Int) ≤ k := by omega
      have hm := firstI_miss p l (fun j hj => hno.out j (by omega))
      have HM := Lib.hid hm
      clear hm hno he
      go_wp2
      go_ret
      exact ⟨by rw [HM.out]; rfl, hb⟩
theorem containsFunc_i (v : Value) (l : List Int) (g : Nat) (lb : Array Value) (p : Int → Bool) (w : World) (eg : ∀ args w, (callFunc g args).run Try.prog w = .ok (.enter g args) w) (hv : RdI w v l) (hp : PredI g lb p w) :
    Calls Try.prog 49 #[v, .func (.func g) #[] lb] w fun e w' => e = .returned (.bool (l.any p)) ∧ Below w.heap.size w w' := by
  have hc := indexFunc_i v l g lb p w eg hv hp
  rw [← firstI_any]
  have HC := Lib.hid hc
  clear hc hp
  go_enter Try.func49, Try.ntmps49
  go_wp2_with (go_at_call 53; refine HC.out.mono ?_; rintro e w1 ⟨rfl, hb⟩)
  go_ret
  exact ⟨rfl, hb⟩
theorem eg50 : ∀ args w, (callFunc 50 args).run Try.prog w = .ok (.enter 50 args) w := enters_of Try.func50 (by kernel_rfl) rfl
theorem within_pred (most : Int) (C : Nat) (w : World) (hC : w.heap[C]? = some (.cells #[.int .i64 most] 3 (0, 0))) : PredI 50 #[.pointer (some ⟨C, 0, none⟩)] (fun n => !win n 0 most) w := fun W x hb => by
  have zC : C < w.heap.size := (Array.getElem?_eq_some_iff.1 hC).1
  have c0 : W.cell? ⟨C, 0, none⟩ = some (.int .i64 most) := by rw [hb.cell (p := ⟨C, 0, none⟩) zC]; exact cell_of_row _ _ _ _ _ _ hC
  show Calls Try.prog 50 #[.int .i64 x, .pointer (some ⟨C, 0, none⟩)] W _
  unfold win
  simp only []
  by_cases h1 : x < 0
  · rw [decide_eq_false (by omega : ¬ 0 ≤ x)]
    go_enter Try.func50, Try.ntmps50
    go_wp2
    go_ret
    exact ⟨rfl, hb⟩
  · have h1' : ¬ x < 0 := h1
    rw [decide_eq_true (by omega : 0 ≤ x)]
    by_cases h2 : most < x
    · rw [decide_eq_false (by omega : ¬ x ≤ most)]
      go_enter Try.func50, Try.ntmps50
      go_wp2
      go_ret
      exact ⟨rfl, hb⟩
    · rw [decide_eq_true (by omega : x ≤ most)]
      go_enter Try.func50, Try.ntmps50
      go_wp2
      go_ret
      exact ⟨rfl, hb⟩
theorem within_b (most : Int) (v : Value) (l : List Int) (w : World) (hv : RdI w v l) :
    Calls Try.prog 41 #[.int .i64 most, v] w fun e w' => e = .returned (.bool (l.all (fun n => win n 0 most))) ∧ Below w.heap.size w w' := by
  have hmf : ∀ (fn : Fn) (first cap : Array Value) (w : World), (Instr.makeFunc fn first cap).run Try.prog w = .ok (.func fn first cap) w := fun _ _ _ _ => rfl
  have hc := containsFunc_i v l 50 #[.pointer (some ⟨w.heap.size, 0, none⟩)] (fun n => !win n 0 most) (w.alloc (.cells #[.int .i64 most] 3)) eg50 (hv.alloc _) (within_pred most _ _ (heap_alloc_new _ _))
  have e : l.all (fun n => win n 0 most) = !(l.any (fun n => !win n 0 most)) := by
    rw [List.all_eq_not_any_not]
  rw [e]
  generalize l.any (fun n => !win n 0 most) = r at hc ⊢
  have HC := Lib.hid hc
  clear hc e
  go_enter Try.func41, Try.ntmps41
  go_wp2_with (go_at_call 49; refine HC.out.mono ?_; rintro e w1 ⟨rfl, hb⟩)
  go_ret
  exact ⟨rfl, below1 _ _ hb⟩
theorem win_33 (n hi : Int) (w : World) : Calls Try.prog 33 #[.int .i64 n, .int .i64 hi] w fun e w' => e = .returned (.bool (win n 0 hi)) ∧ w' = w := by
  unfold win
  by_cases h1 : 0 ≤ n
  · by_cases h2 : n ≤ hi
    · go_enter Try.func33, Try.ntmps33
      go_wp2
      go_ret
      simp [h1, h2]
    · go_enter Try.func33, Try.ntmps33
      go_wp2
      go_ret
      simp [h1, h2]
  · go_enter Try.func33, Try.ntmps33
    go_wp2
    go_ret
    refine ⟨?_, rfl⟩
    rw [decide_eq_false (by omega : ¬ 0 ≤ n)]
    rfl
end Go.Proofs.Ytjbndfnhollfnaa
