/- Lists of keys in memory; the first key that a function value takes; Twin. -/
import Derived.Test.YtjbndfnhollfnaaKeyB
namespace Go.Proofs.Ytjbndfnhollfnaa
open Go.RowKit Go.Shelf
set_option linter.unusedSimpArgs false
set_option linter.unusedVariables false
/-- the key at a place -/
def keyAt (l : List K) (j : Nat) : K := l[j]!
theorem keyAt_eq (l : List K) (j : Nat) (h : j < l.length) : keyAt l j = l[j] := by simp [keyAt, h]
/-- v is a slice with the keys l in world w -/
def RdK (w : World) (v : Value) (l : List K) : Prop :=
  ∃ a cap, v = .slice a l.length cap ∧ l.length ≤ cap ∧ cap ≤ maxLen ∧
    (0 < l.length → ∃ b off, a = some ⟨b, off, none⟩ ∧ b < w.heap.size ∧ ∀ j, j < l.length → ∀ i, i < 9 → w.cell? ⟨b, off + j * 9 + i, none⟩ = (kc (keyAt l j))[i]?)
theorem RdK.keep {w w' : World} {v : Value} {l : List K} {B : Nat} (h : RdK w v l) (hb : Below B w w') (hB : w.heap.size ≤ B) : RdK w' v l := by
  obtain ⟨a, cap, rfl, h1, h2, h3⟩ := h
  refine ⟨a, cap, rfl, h1, h2, fun h0 => ?_⟩
  obtain ⟨b, off, rfl, hlt, hc⟩ := h3 h0
  refine ⟨b, off, rfl, Nat.lt_of_lt_of_le hlt hb.size, fun j hj i hi => ?_⟩
  rw [hb.cell (p := ⟨b, off + j * 9 + i, none⟩) (Nat.lt_of_lt_of_le hlt hB)]
  exact hc j hj i hi
theorem RdK.on {w w' : World} {v : Value} {l : List K} (h : RdK w v l) (hb : Below w.heap.size w w') : RdK w' v l := h.keep hb (Nat.le_refl _)
theorem RdK.alloc {w : World} {v : Value} {l : List K} (h : RdK w v l) (X : Obj) : RdK (w.alloc X) v l := h.on ((Below.refl w.heap.size w).alloc (Nat.le_refl _) X)
theorem RdK.drew {w : World} {v : Value} {l : List K} (n : Nat) (h : RdK w v l) : RdK (w.drewN n) v l := h.on (below_drewN n (Below.refl w.heap.size w))
theorem RdK.nil (w : World) : RdK w (.slice none 0 0) [] := ⟨none, 0, rfl, Nat.le_refl _, by unfold maxLen; omega, fun h => absurd h (by simp)⟩
/-- the key k lies from cell o of block b on -/
def Nine (w : World) (b o : Nat) (k : K) : Prop :=
  w.cell? ⟨b, o, none⟩ = some (.int .i64 k.id) ∧ w.cell? ⟨b, o + 1, none⟩ = some (.int .i64 k.ty) ∧ w.cell? ⟨b, o + 2, none⟩ = some (.string ⟨k.val.toArray⟩) ∧
  w.cell? ⟨b, o + 3, none⟩ = some (.int .i64 k.uses) ∧ w.cell? ⟨b, o + 4, none⟩ = some (.int .i64 k.start) ∧ w.cell? ⟨b, o + 5, none⟩ = some (.int .i64 k.fin) ∧
  w.cell? ⟨b, o + 6, none⟩ = some (.int .i64 k.ver) ∧ w.cell? ⟨b, o + 7, none⟩ = some (.int .i64 k.par) ∧ w.cell? ⟨b, o + 8, none⟩ = some (.bool k.raw)
theorem RdK.cells {w : World} {a : Option Addr} {n cap : Nat} {l : List K} (h : RdK w (.slice a n cap) l) : 0 < l.length → ∃ b off, a = some ⟨b, off, none⟩ ∧ b < w.heap.size ∧
    ∀ j, j < l.length → Nine w b (off + j * 9) (keyAt l j) := by
  obtain ⟨a', c', e, _, _, h3⟩ := h
  cases e
  intro h0
  obtain ⟨b, off, rfl, hlt, hc⟩ := h3 h0
  refine ⟨b, off, rfl, hlt, fun j hj => ⟨hc j hj 0 (by omega), hc j hj 1 (by omega), hc j hj 2 (by omega), hc j hj 3 (by omega), hc j hj 4 (by omega), hc j hj 5 (by omega), hc j hj 6 (by omega), hc j hj 7 (by omega), hc j hj 8 (by omega)⟩⟩
theorem RdK.len {w : World} {v : Value} {l : List K} (h : RdK w v l) : l.length ≤ maxLen := by
  obtain ⟨a, cap, rfl, h1, h2, h3⟩ := h
  omega
/-- the place of the first that p takes, or -1 -/
def firstIx (p : K → Bool) (l : List K) : Int := match l.findIdx? p with | some i => (i : Int) | none => -1
theorem firstIx_hit (p : K → Bool) (l : List K) (k : Nat) (hk : k < l.length) (h : ∀ j, j < k → p (keyAt l j) = false) (hp : p (keyAt l k) = true) : firstIx p l = k := by
  have e : (keyAt l k) = l[k] := keyAt_eq l k hk
  have : l.findIdx? p = some k := by
    rw [List.findIdx?_eq_some_iff_getElem]
    refine ⟨hk, by rw [← e]; exact hp, fun j hj => ?_⟩
    have := h j hj
    rw [keyAt_eq l j (by omega)] at this
    simpa using this
  rw [firstIx, this]
theorem firstIx_miss (p : K → Bool) (l : List K) (h : ∀ j, j < l.length → p (keyAt l j) = false) : firstIx p l = -1 := by
  have : l.findIdx? p = none := by
    rw [List.findIdx?_eq_none_iff]
    intro x hx
    obtain ⟨i, hi, rfl⟩ := List.mem_iff_getElem.1 hx
    have := h i hi
    rw [keyAt_eq l i hi] at this
    exact this
  rw [firstIx, this]
attribute [local irreducible] Calls
set_option maxHeartbeats 2000000 in
theorem indexFunc_k (v : Value) (l : List K) (g : Nat) (lb : Array Value) (p : K → Bool) (w : World) (eg : ∀ args w, (callFunc g args).run Try.prog w = .ok (.enter g args) w) (hv : RdK w v l) (hp : PredB g lb p w) :
    Calls Try.prog 28 #[v, .func (.func g) #[] lb] w fun e w' => e = .returned (.int .i64 (firstIx p l)) ∧ Below w.heap.size w w' := by
  have hlen := hv.len
  unfold maxLen at hlen
  have HV := Lib.hid hv
  have HP := Lib.hid hp
  obtain ⟨a, cap, rfl, _, _, _⟩ := hv
  clear hp
  go_enter Try.func28, Try.ntmps28
  go_wp2
  go_loopw [8] (fun o wr => ∃ k : Nat, k ≤ l.length ∧ o = .int .i64 k ∧ Hid (∀ j, j < k → p (keyAt l j) = false) ∧ Below w.heap.size w wr) (fun o _ => l.length - (intOf o).toNat)
  case atStart => exact ⟨0, Nat.zero_le _, rfl, Lib.hid (fun j hj => absurd hj (by omega)), Below.refl _ _⟩
  case round =>
    obtain ⟨k, hk, rfl, hno, hb⟩ := hrel
    by_cases hlt : k < l.length
    · obtain ⟨b, off, rfl, hbl, hrow⟩ := ((HV.out.on hb).cells) (by omega)
      have hl2 := hrow k hlt
      have hcall := HP.out wr (keyAt l k) hb
      have i1 : (k : Int) < l.length := by omega
      have HK := Lib.hid hlt
      have HX : Hid (∀ j, j < k + 1 → j ≠ k → p (keyAt l j) = false) := Lib.hid (fun j hj hne => hno.out j (by omega))
      have HH := Lib.hid (fun h => firstIx_hit p l k hlt hno.out h)
      unfold kv kc at hcall
      clear hrow hno hb
      generalize hy : (keyAt l k) = y at hl2 hcall HH
      obtain ⟨d0, d1, d2, d3, d4, d5, d6, d7, d8⟩ := hl2
      have HY := Lib.hid hy
      clear hy
      cases hq : p y with
      | true =>
        rw [hq] at hcall
        have r := HH.out hq
        have HC := Lib.hid hcall
        clear hcall
        go_wp2_with (go_at_fn g; refine HC.out.mono ?_; rintro e w1 ⟨rfl, hb'⟩)
        go_ret
        exact ⟨by rw [r]; rfl, hb'⟩
      | false =>
        rw [hq] at hcall
        have HC := Lib.hid hcall
        have HQ := Lib.hid hq
        clear hcall hq
        go_wp2_with (go_at_fn g; refine HC.out.mono ?_; rintro e w1 ⟨rfl, hb'⟩)
        go_roundw
        case rel => exact ⟨k + 1, HK.out, by go_num, Lib.hid (fun j hj => by
          by_cases e : j = k
          · subst e; rw [HY.out]; exact HQ.out
          · exact HX.out j hj e), hb'⟩
        case measure => have := HK.out; simp [intOf]; omega
    · have he : k = l.length := by omega
      have i1 : (l.length : Int) ≤ k := by omega
      have hm := firstIx_miss p l (fun j hj => hno.out j (by omega))
      have HM := Lib.hid hm
      clear hm hno he
      go_wp2
      go_ret
      exact ⟨by rw [HM.out]; rfl, hb⟩
end Go.Proofs.Ytjbndfnhollfnaa
