/- Policies: types, rules and quorums as the walk's values; lists of them in memory. -/
import Derived.Test.YtamdlkflcbefdaaDoorRowE
import Derived.Test.YtamdlkflcbefdaaDoorPureP
import Derived.Below
namespace Go.Proofs.YtamdlkflcbefdaaDoor
open Go.RowKit
set_option linter.unusedSimpArgs false
set_option linter.unusedVariables false
/-- a type -/
structure TyP where
  nm : List UInt8
  fl : Int
  li : Int
deriving DecidableEq
instance : Inhabited TyP := ⟨⟨[], 0, 0⟩⟩
/-- a rule -/
structure RuP where
  k : Int
  a : Int
  b : Int
deriving DecidableEq
instance : Inhabited RuP := ⟨⟨0, 0, 0⟩⟩
/-- a quorum -/
structure QuP where
  c : Int
  n : Int
  d : Int
  v : Int
  u : Int
deriving DecidableEq
instance : Inhabited QuP := ⟨⟨0, 0, 0, 0, 0⟩⟩
abbrev eT : El TyP := ⟨59, 22, 3, fun x => [.string ⟨x.nm.toArray⟩, .int .i64 x.fl, .int .i64 x.li]⟩
theorem eT_ok : eT.OK := ⟨Tryd.underlying22, by kernel_rfl, fun _ => rfl, fun x u hu => by simp at hu; rcases hu with rfl | rfl | rfl <;> rfl, by decide⟩
abbrev eR : El RuP := ⟨55, 23, 3, fun x => [.int .i64 x.k, .int .i64 x.a, .int .i64 x.b]⟩
theorem eR_ok : eR.OK := ⟨Tryd.underlying23, by kernel_rfl, fun _ => rfl, fun x u hu => by simp at hu; rcases hu with rfl | rfl | rfl <;> rfl, by decide⟩
abbrev eQ : El QuP := ⟨33, 24, 5, fun x => [.int .i64 x.c, .int .i64 x.n, .int .i64 x.d, .int .i64 x.v, .int .i64 x.u]⟩
theorem eQ_ok : eQ.OK := ⟨Tryd.underlying24, by kernel_rfl, fun _ => rfl, fun x u hu => by simp at hu; rcases hu with rfl | rfl | rfl | rfl | rfl <;> rfl, by decide⟩
abbrev eI : El Int := ⟨3, 40, 1, fun n => [.int .i64 n]⟩
theorem eI_ok : eI.OK := ⟨Tryd.underlying40, by kernel_rfl, fun _ => rfl, fun x u hu => by simp at hu; rw [hu]; rfl, by decide⟩
/-- the element at a place -/
def nth {α : Type} [Inhabited α] (l : List α) (j : Nat) : α := l[j]!
theorem nth_eq {α : Type} [Inhabited α] (l : List α) (j : Nat) (h : j < l.length) : nth l j = l[j] := by simp [nth, h]
theorem nth_take {α : Type} [Inhabited α] (l : List α) (j : Nat) (h : j < l.length) : l.take (j + 1) = l.take j ++ [nth l j] := by rw [nth_eq l j h, List.take_append_getElem h]
theorem nth_last {α : Type} [Inhabited α] (l : List α) (x : α) : nth (l ++ [x]) l.length = x := by simp [nth]
theorem nth_append_left {α : Type} [Inhabited α] (l m : List α) (j : Nat) (h : j < l.length) : nth (l ++ m) j = nth l j := by
  rw [nth_eq _ _ (by simp; omega), nth_eq _ _ h, List.getElem_append_left h]
/-! where they lie -/
def ThreeT (w : World) (b o : Nat) (x : TyP) : Prop := w.cell? ⟨b, o, none⟩ = some (.string ⟨x.nm.toArray⟩) ∧ w.cell? ⟨b, o + 1, none⟩ = some (.int .i64 x.fl) ∧ w.cell? ⟨b, o + 2, none⟩ = some (.int .i64 x.li)
def ThreeR (w : World) (b o : Nat) (x : RuP) : Prop := w.cell? ⟨b, o, none⟩ = some (.int .i64 x.k) ∧ w.cell? ⟨b, o + 1, none⟩ = some (.int .i64 x.a) ∧ w.cell? ⟨b, o + 2, none⟩ = some (.int .i64 x.b)
def FiveQ (w : World) (b o : Nat) (x : QuP) : Prop := w.cell? ⟨b, o, none⟩ = some (.int .i64 x.c) ∧ w.cell? ⟨b, o + 1, none⟩ = some (.int .i64 x.n) ∧ w.cell? ⟨b, o + 2, none⟩ = some (.int .i64 x.d) ∧ w.cell? ⟨b, o + 3, none⟩ = some (.int .i64 x.v) ∧ w.cell? ⟨b, o + 4, none⟩ = some (.int .i64 x.u)
theorem RdE.cellsT {w : World} {a : Option Addr} {n cap : Nat} {l : List TyP} (h : RdE eT w (.slice a n cap) l) (h0 : 0 < l.length) : ∃ b off, a = some ⟨b, off, none⟩ ∧ b < w.heap.size ∧ ∀ j, j < l.length → ThreeT w b (off + j * 3) (nth l j) := by
  obtain ⟨b, off, rfl, hb, hc⟩ := h.cell eT_ok h0
  refine ⟨b, off, rfl, hb, fun j hj => ?_⟩
  rw [nth_eq l j hj]
  exact ⟨hc j hj 0 (by decide), hc j hj 1 (by decide), hc j hj 2 (by decide)⟩
theorem RdE.cellsR {w : World} {a : Option Addr} {n cap : Nat} {l : List RuP} (h : RdE eR w (.slice a n cap) l) (h0 : 0 < l.length) : ∃ b off, a = some ⟨b, off, none⟩ ∧ b < w.heap.size ∧ ∀ j, j < l.length → ThreeR w b (off + j * 3) (nth l j) := by
  obtain ⟨b, off, rfl, hb, hc⟩ := h.cell eR_ok h0
  refine ⟨b, off, rfl, hb, fun j hj => ?_⟩
  rw [nth_eq l j hj]
  exact ⟨hc j hj 0 (by decide), hc j hj 1 (by decide), hc j hj 2 (by decide)⟩
theorem RdE.cellsQ {w : World} {a : Option Addr} {n cap : Nat} {l : List QuP} (h : RdE eQ w (.slice a n cap) l) (h0 : 0 < l.length) : ∃ b off, a = some ⟨b, off, none⟩ ∧ b < w.heap.size ∧ ∀ j, j < l.length → FiveQ w b (off + j * 5) (nth l j) := by
  obtain ⟨b, off, rfl, hb, hc⟩ := h.cell eQ_ok h0
  refine ⟨b, off, rfl, hb, fun j hj => ?_⟩
  rw [nth_eq l j hj]
  exact ⟨hc j hj 0 (by decide), hc j hj 1 (by decide), hc j hj 2 (by decide), hc j hj 3 (by decide), hc j hj 4 (by decide)⟩
theorem RdE.cellsI {w : World} {a : Option Addr} {n cap : Nat} {l : List Int} (h : RdE eI w (.slice a n cap) l) (h0 : 0 < l.length) : ∃ b off, a = some ⟨b, off, none⟩ ∧ b < w.heap.size ∧ ∀ j, j < l.length → w.cell? ⟨b, off + j, none⟩ = some (.int .i64 (nth l j)) := by
  obtain ⟨b, off, rfl, hb, hc⟩ := h.cell eI_ok h0
  refine ⟨b, off, rfl, hb, fun j hj => ?_⟩
  rw [nth_eq l j hj]
  have := hc j hj 0 (by decide)
  rw [Nat.mul_one] at this
  exact this
/-! the first place -/
/-- the place of the first that p takes, or -1 -/
def firstIx {α : Type} (p : α → Bool) (l : List α) : Int := match l.findIdx? p with | some i => (i : Int) | none => -1
theorem firstIx_hit {α : Type} [Inhabited α] (p : α → Bool) (l : List α) (k : Nat) (hk : k < l.length) (h : ∀ j, j < k → p (nth l j) = false) (hp : p (nth l k) = true) : firstIx p l = k := by
  have e : (nth l k) = l[k] := nth_eq l k hk
  have : l.findIdx? p = some k := by
    rw [List.findIdx?_eq_some_iff_getElem]
    refine ⟨hk, by rw [← e]; exact hp, fun j hj => ?_⟩
    have := h j hj
    rw [nth_eq l j (by omega)] at this
    simpa using this
  rw [firstIx, this]
theorem firstIx_miss {α : Type} [Inhabited α] (p : α → Bool) (l : List α) (h : ∀ j, j < l.length → p (nth l j) = false) : firstIx p l = -1 := by
  have : l.findIdx? p = none := by
    rw [List.findIdx?_eq_none_iff]
    intro x hx
    obtain ⟨i, hi, rfl⟩ := List.mem_iff_getElem.1 hx
    have := h i hi
    rw [nth_eq l i hi] at this
    exact this
  rw [firstIx, this]
/-- either none, or the first -/
theorem firstIx_parts {α : Type} [Inhabited α] (p : α → Bool) (l : List α) : (firstIx p l = -1 ∧ ∀ j, j < l.length → p (nth l j) = false) ∨ (∃ i, i < l.length ∧ firstIx p l = i ∧ p (nth l i) = true ∧ ∀ j, j < i → p (nth l j) = false) := by
  unfold firstIx
  cases h : l.findIdx? p with
  | none =>
    refine .inl ⟨rfl, fun j hj => ?_⟩
    rw [List.findIdx?_eq_none_iff] at h
    rw [nth_eq l j hj]; exact h _ (List.getElem_mem _)
  | some i =>
    rw [List.findIdx?_eq_some_iff_getElem] at h
    obtain ⟨hi, hp, hn⟩ := h
    refine .inr ⟨i, hi, rfl, by rw [nth_eq l i hi]; exact hp, fun j hj => ?_⟩
    rw [nth_eq l j (by omega)]
    simpa using hn j hj
/-! boxes -/
/-- the policy's cells -/
abbrev pol (s : ByteArray) (vt vr vq : Value) : Array Value := #[.string s, vt, vr, vq]
theorem boxed1 (w : World) (cs : Array Value) (T : TypeId) {w1 : World} (h : Below (w.alloc (.cells cs T)).heap.size (w.alloc (.cells cs T)) w1) (j : Nat) : w1.cell? ⟨w.heap.size, j, none⟩ = cs[j]? := by
  rw [h.cell (p := ⟨w.heap.size, j, none⟩) (by simp)]
  exact cell_of_row _ _ _ _ _ _ (heap_alloc_new _ _)
theorem below1 (w : World) (A : Obj) {w1 : World} (h : Below (w.alloc A).heap.size (w.alloc A) w1) : Below w.heap.size w w1 :=
  ((Below.refl _ _).alloc (Nat.le_refl _) A).trans (h.mono (by simp))
theorem below2 (w : World) (A B : Obj) {w1 : World} (h : Below ((w.alloc A).alloc B).heap.size ((w.alloc A).alloc B) w1) : Below w.heap.size w w1 := below1 _ _ (below1 _ _ h)
theorem below3 (w : World) (A B C : Obj) {w1 : World} (h : Below (((w.alloc A).alloc B).alloc C).heap.size (((w.alloc A).alloc B).alloc C) w1) : Below w.heap.size w w1 := below2 _ _ _ (below1 _ _ h)
theorem boxed2 (w : World) (cs : Array Value) (T : TypeId) (B : Obj) {w1 : World} (h : Below ((w.alloc (.cells cs T)).alloc B).heap.size ((w.alloc (.cells cs T)).alloc B) w1) (j : Nat) : w1.cell? ⟨w.heap.size, j, none⟩ = cs[j]? :=
  boxed1 _ _ _ (below1 _ _ h) j
theorem boxed3 (w : World) (cs : Array Value) (T : TypeId) (B C : Obj) {w1 : World} (h : Below (((w.alloc (.cells cs T)).alloc B).alloc C).heap.size (((w.alloc (.cells cs T)).alloc B).alloc C) w1) (j : Nat) : w1.cell? ⟨w.heap.size, j, none⟩ = cs[j]? :=
  boxed1 _ _ _ (below2 _ _ _ h) j
end Go.Proofs.YtamdlkflcbefdaaDoor
