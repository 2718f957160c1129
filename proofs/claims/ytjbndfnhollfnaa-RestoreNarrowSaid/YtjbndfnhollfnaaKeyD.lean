/- Twin, both. -/
import Derived.Test.YtjbndfnhollfnaaKeyC
namespace Go.Proofs.Ytjbndfnhollfnaa
open Go.RowKit Go.Shelf
set_option linter.unusedSimpArgs false
set_option linter.unusedVariables false
/-- the first key that is like k -/
def twinId (l : List K) (k : K) : Int := match l.findIdx? (fun x => alikeK x k) with | some i => (keyAt l i).id | none => 0
def twinIs (l : List K) (k : K) : Bool := match l.findIdx? (fun x => alikeK x k) with | some _ => true | none => false
theorem twin_parts (l : List K) (k : K) : (twinId l k = 0 ∧ twinIs l k = false ∧ firstIx (fun x => alikeK x k) l = -1 ∧ ∀ j, j < l.length → alikeK (keyAt l j) k = false) ∨
    (∃ i, i < l.length ∧ twinId l k = (keyAt l i).id ∧ twinIs l k = true ∧ firstIx (fun x => alikeK x k) l = i ∧ alikeK (keyAt l i) k = true ∧ ∀ j, j < i → alikeK (keyAt l j) k = false) := by
  unfold twinId twinIs firstIx
  cases h : l.findIdx? (fun x => alikeK x k) with
  | none =>
    refine .inl ⟨rfl, rfl, rfl, fun j hj => ?_⟩
    rw [List.findIdx?_eq_none_iff] at h
    have e : (keyAt l j) = l[j] := keyAt_eq l j hj
    rw [e]; exact h _ (List.getElem_mem _)
  | some i =>
    rw [List.findIdx?_eq_some_iff_getElem] at h
    obtain ⟨hi, hp, hn⟩ := h
    refine .inr ⟨i, hi, rfl, rfl, rfl, by rw [keyAt_eq l i hi]; exact hp, fun j hj => ?_⟩
    have e : (keyAt l j) = l[j]'(by omega) := keyAt_eq l j (by omega)
    rw [e]
    simpa using hn j hj
theorem kat2 (w : World) (A : Obj) (k : K) : KAt ((w.alloc A).alloc (.cells (kc k) 30)) (w.heap.size + 1) k := by
  have h := KAt.new (w.alloc A) k
  rwa [World.size_alloc] at h
theorem eg29 : ∀ args w, (callFunc 29 args).run Try.prog w = .ok (.enter 29 args) w := enters_of Try.func29 (by kernel_rfl) rfl
theorem below2 (w : World) (A B : Obj) {w1 : World} (h : Below ((w.alloc A).alloc B).heap.size ((w.alloc A).alloc B) w1) : Below w.heap.size w w1 :=
  (((Below.refl _ _).alloc (Nat.le_refl _) A).alloc (by simp) B).trans (h.mono (by simp; omega))
theorem boxed2 (w : World) (cs : Array Value) (T : TypeId) (B : Obj) {w1 : World} (h : Below ((w.alloc (.cells cs T)).alloc B).heap.size ((w.alloc (.cells cs T)).alloc B) w1) (j : Nat) : w1.cell? ⟨w.heap.size, j, none⟩ = cs[j]? := by
  have h2 := ((Below.refl (w.alloc (.cells cs T)).heap.size (w.alloc (.cells cs T))).alloc (Nat.le_refl _) B).trans (h.mono (by simp))
  rw [h2.cell (p := ⟨w.heap.size, j, none⟩) (by simp)]
  exact cell_of_row _ _ _ _ _ _ (heap_alloc_new _ _)
attribute [local irreducible] Calls alikeK
set_option maxHeartbeats 2000000 in
theorem twin_c (nx : Int) (v : Value) (l : List K) (k : K) (w : World) (hv : RdK w v l) :
    Calls Try.prog 12 #[.agg #[.int .i64 nx, v], kv k] w fun e w' => e = .returned (.tuple #[.int .i64 (twinId l k), .bool (twinIs l k)]) ∧ Below w.heap.size w w' := by
  have hmf : ∀ (fn : Fn) (first cap : Array Value) (w : World), (Instr.makeFunc fn first cap).run Try.prog w = .ok (.func fn first cap) w := fun _ _ _ _ => rfl
  have hlen := hv.len
  unfold maxLen at hlen
  have hcon := indexFunc_k v l 29 #[.pointer (some ⟨w.heap.size + 1, 0, none⟩)] (fun x => alikeK x k) ((w.alloc (.cells #[.int .i64 nx, v] 24)).alloc (.cells (kc k) 30)) eg29
    ((hv.alloc _).alloc _) (twin_pred k (w.heap.size + 1) _ (kat2 w _ k))
  have HV := Lib.hid ((hv.alloc (.cells #[.int .i64 nx, v] 24)).alloc (.cells (kc k) 30))
  obtain ⟨a, cap, rfl, _, _, _⟩ := hv
  rcases twin_parts l k with ⟨h1, h2, h3, _⟩ | ⟨i, hi, h1, h2, h3, _, _⟩
  · rw [h1, h2]
    rw [h3] at hcon
    unfold kc at hcon
    have HC := Lib.hid hcon
    clear hcon h1 h2 h3
    unfold kv kc
    go_enter Try.func12, Try.ntmps12
    go_wp2_with (go_at_call 28; refine HC.out.mono ?_; rintro e w1 ⟨rfl, hb⟩)
    go_ret2
    exact ⟨rfl, below2 _ _ _ hb⟩
  · rw [h1, h2]
    rw [h3] at hcon
    have i1 : (i : Int) < l.length := by omega
    have i2 : ¬ (i : Int) < 0 := by omega
    have HI := Lib.hid hi
    unfold kc at hcon HV
    have HC := Lib.hid hcon
    clear hcon h1 h2 h3
    unfold kv kc
    go_enter Try.func12, Try.ntmps12
    go_wp2_with (go_at_call 28; refine HC.out.mono ?_; rintro e w1 ⟨rfl, hb⟩; obtain ⟨b, off, rfl, hbl, hrow⟩ := ((HV.out.on hb).cells) (by omega); obtain ⟨d0, _⟩ := hrow i HI.out; have t1 : w1.cell? ⟨w.heap.size, 1, none⟩ = some (.slice (some ⟨b, off, none⟩) l.length cap) := boxed2 _ _ _ _ hb 1; clear hrow)
    go_ret2
    exact ⟨rfl, below2 _ _ _ hb⟩
end Go.Proofs.Ytjbndfnhollfnaa
