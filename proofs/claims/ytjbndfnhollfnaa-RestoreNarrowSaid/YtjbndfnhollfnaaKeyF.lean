/- Does some key meet a test; the program's Holds. -/
import Derived.Test.YtjbndfnhollfnaaKeyE
namespace Go.Proofs.Ytjbndfnhollfnaa
open Go.RowKit Go.Shelf
set_option linter.unusedSimpArgs false
set_option linter.unusedVariables false
theorem firstIx_any (p : K → Bool) (l : List K) : decide (0 ≤ firstIx p l) = l.any p := by
  unfold firstIx
  cases h : l.findIdx? p with
  | none =>
    rw [List.findIdx?_eq_none_iff] at h
    have : l.any p = false := by
      rw [List.any_eq_false]
      intro x hx
      simpa using h x hx
    rw [this]; rfl
  | some i =>
    rw [List.findIdx?_eq_some_iff_getElem] at h
    obtain ⟨hi, hp, _⟩ := h
    have : l.any p = true := List.any_eq_true.2 ⟨_, List.getElem_mem hi, hp⟩
    rw [this]
    simp
theorem boxed1 (w : World) (cs : Array Value) (T : TypeId) {w1 : World} (h : Below (w.alloc (.cells cs T)).heap.size (w.alloc (.cells cs T)) w1) (j : Nat) : w1.cell? ⟨w.heap.size, j, none⟩ = cs[j]? := by
  rw [h.cell (p := ⟨w.heap.size, j, none⟩) (by simp)]
  exact cell_of_row _ _ _ _ _ _ (heap_alloc_new _ _)
theorem below1 (w : World) (A : Obj) {w1 : World} (h : Below (w.alloc A).heap.size (w.alloc A) w1) : Below w.heap.size w w1 :=
  ((Below.refl _ _).alloc (Nat.le_refl _) A).trans (h.mono (by simp))
attribute [local irreducible] Calls alikeK twinId twinIs
set_option maxHeartbeats 2000000 in
theorem containsFunc_k (v : Value) (l : List K) (g : Nat) (lb : Array Value) (p : K → Bool) (w : World) (eg : ∀ args w, (callFunc g args).run Try.prog w = .ok (.enter g args) w) (hv : RdK w v l) (hp : PredB g lb p w) :
    Calls Try.prog 31 #[v, .func (.func g) #[] lb] w fun e w' => e = .returned (.bool (l.any p)) ∧ Below w.heap.size w w' := by
  have hc := indexFunc_k v l g lb p w eg hv hp
  rw [← firstIx_any]
  have HC := Lib.hid hc
  clear hc hp
  go_enter Try.func31, Try.ntmps31
  go_wp2_with (go_at_call 28; refine HC.out.mono ?_; rintro e w1 ⟨rfl, hb⟩)
  go_ret
  exact ⟨rfl, hb⟩
/-- not over, and without a twin -/
def lacks (tl : List K) (now : Int) (x : K) : Bool := decide (now < x.fin) && !twinIs tl x
theorem eg32 : ∀ args w, (callFunc 32 args).run Try.prog w = .ok (.enter 32 args) w := enters_of Try.func32 (by kernel_rfl) rfl
set_option maxHeartbeats 2000000 in
theorem holds_pred (nx now : Int) (v : Value) (tl : List K) (B C : Nat) (w : World) (hv : RdK w v tl) (hB : w.heap[B]? = some (.cells #[.int .i64 nx, v] 24 (0, 0))) (hC : w.heap[C]? = some (.cells #[.int .i64 now] 3 (0, 0))) :
    PredB 32 #[.pointer (some ⟨B, 0, none⟩), .pointer (some ⟨C, 0, none⟩)] (lacks tl now) w := fun W x hb => by
  have zB : B < w.heap.size := (Array.getElem?_eq_some_iff.1 hB).1
  have zC : C < w.heap.size := (Array.getElem?_eq_some_iff.1 hC).1
  have hW := hb.size
  have b0 : W.cell? ⟨B, 0, none⟩ = some (.int .i64 nx) := by rw [hb.cell (p := ⟨B, 0, none⟩) zB]; exact cell_of_row _ _ _ _ _ _ hB
  have b1 : W.cell? ⟨B, 1, none⟩ = some v := by rw [hb.cell (p := ⟨B, 1, none⟩) zB]; exact cell_of_row _ _ _ _ _ _ hB
  have c0 : W.cell? ⟨C, 0, none⟩ = some (.int .i64 now) := by rw [hb.cell (p := ⟨C, 0, none⟩) zC]; exact cell_of_row _ _ _ _ _ _ hC
  have l1 : B < W.heap.size := by omega
  have l2 : C < W.heap.size := by omega
  have n1 : B ≠ W.heap.size := by omega
  have n2 : C ≠ W.heap.size := by omega
  have HC0 := Lib.hid c0
  have HV := Lib.hid ((hv.on hb).alloc (.cells (kc x) 30))
  have htw := twin_c nx v tl x (W.alloc (.cells (kc x) 30)) HV.out
  have HBX : Hid (∀ w1, Below (W.alloc (.cells (kc x) 30)).heap.size (W.alloc (.cells (kc x) 30)) w1 → w1.cell? ⟨W.heap.size, 5, none⟩ = some (.int .i64 x.fin) ∧ w1.cell? ⟨C, 0, none⟩ = some (.int .i64 now) ∧ Below w.heap.size w w1) :=
    Lib.hid (fun w1 h => ⟨boxed1 _ _ _ h 5, by rw [(below1 _ _ h).cell (p := ⟨C, 0, none⟩) (by show C < _; omega)]; exact c0, hb.trans ((below1 _ _ h).mono hW)⟩)
  unfold kv kc at htw
  unfold kc at HBX
  have HTW := Lib.hid htw
  obtain ⟨a, cap, rfl, _, _, _⟩ := hv
  clear htw hb hB hC
  show Calls Try.prog 32 #[.agg #[.int .i64 x.id, .int .i64 x.ty, .string ⟨x.val.toArray⟩, .int .i64 x.uses, .int .i64 x.start, .int .i64 x.fin, .int .i64 x.ver, .int .i64 x.par, .bool x.raw], .pointer (some ⟨B, 0, none⟩), .pointer (some ⟨C, 0, none⟩)] W _
  unfold lacks
  by_cases hf : now < x.fin
  · have hlt : decide (now < x.fin) = true := decide_eq_true hf
    rw [hlt]
    go_enter Try.func32, Try.ntmps32
    go_wp2_with (go_at_call 12; refine HTW.out.mono ?_; rintro e w1 ⟨rfl, hb'⟩; obtain ⟨f5, g0, hbb⟩ := HBX.out _ hb')
    go_ret
    exact ⟨by simp, hbb⟩
  · have hlt : decide (now < x.fin) = false := decide_eq_false hf
    rw [hlt]
    go_enter Try.func32, Try.ntmps32
    go_wp2_with (go_at_call 12; refine HTW.out.mono ?_; rintro e w1 ⟨rfl, hb'⟩; obtain ⟨f5, g0, hbb⟩ := HBX.out _ hb')
    go_ret
    exact ⟨by simp, hbb⟩
end Go.Proofs.Ytjbndfnhollfnaa
