/- A region that draws its order: all operations but the last few read memory or call quietly (in a class of worlds that may grow), the last few come in one order. One walk in the text's order serves every order. -/
import Derived.StillTail
import Derived.Deep.Quiet
import Derived.Deep.QuietTactic
import Derived.Below
namespace Go.Proofs.YtackbjbmadkkhaaDoor
variable {P : Program} {ops : Array Oper} {md : Region.Mode} {C : World → Prop}

/-- Whatever comes up among the first n, till f of them have come; then L. -/
def headAny (P : Program) (md : Region.Mode) (ops : Array Oper) (C : World → Prop) (n : Nat) (L : Array Bool → Act → Prop) : Nat → Array Bool → Act → Prop
  | 0, m, a => L m a
  | f + 1, m, a => Region.ready md ops m ≠ [] ∧ ∀ i, i ∈ Region.ready md ops m → i < n ∧ qOp P ops C i (headAny P md ops C n L f (m.setIfInBounds i true)) a

theorem headAny_sound {n g : Nat} {L : Array Bool → Act → Prop} {Q : Exit → Act → World → Prop} (hL : ∀ m a w, C w → L m a → wpAny P md ops Q g m a w)
    (f : Nat) : ∀ (m : Array Bool) (a : Act) (w : World), C w → headAny P md ops C n L f m a → wpAny P md ops Q (f + g) m a w := by
  induction f with
  | zero => intro m a w hw h; rw [Nat.zero_add]; exact hL m a w hw h
  | succ f ih =>
    intro m a w hw h
    have e : f + 1 + g = (f + g) + 1 := by omega
    rw [e]
    refine ⟨fun h0 => absurd h0 h.1, fun i hi => ?_⟩
    exact wpOp_of_qOp hw (fun a' w' hw' h' => ih _ a' w' hw' h') (h.2 i hi).2

theorem headAny_swap {n i : Nat} {oi : Oper} {v : Value} {L : Array Bool → Act → Prop} (hi : ops[i]? = some oi) (hns : Region.noSelect ops = true)
    (hs : Region.sinkB md ops n = true) (hc : Region.chainB md ops n = true) (hn : n < ops.size) (hin : i < n)
    (hL : ∀ m a, L m a → ∀ j ∈ Region.ready md ops m, n ≤ j) (f : Nat) :
    ∀ (m : Array Bool) (a : Act), HeadInv md ops n m →
      (∀ j oj, ops[j]? = some oj → j ≠ i → m.getD j true = false → (∀ e ∈ oj.after, Region.binds md e = true → e.on ≠ i) → oi.apart ops oj = true) →
      i ∈ Region.ready md ops m → YieldsIn P ops C oi v a → headAny P md ops C n L f (m.setIfInBounds i true) (a.put oi.dst v) → headAny P md ops C n L (f + 1) m a := by
  have sel := Region.noSelect_spec hns
  have low : ∀ (m : Array Bool), HeadInv md ops n m → i ∈ Region.ready md ops m → ∀ j, j ∈ Region.ready md ops m → j < n := by
    intro m inv hr j hj
    refine Nat.lt_of_not_le (fun h => ?_)
    exact tail_waits hs hc hn inv _ i rfl hin (mem_ready.1 hr).1 j h hj
  induction f with
  | zero =>
    intro m a inv _ hr hy H
    refine ⟨List.ne_nil_of_mem hr, fun j hj => ⟨low m inv hr j hj, ?_⟩⟩
    rcases Nat.decEq j i with hji | hji
    · have := hL _ _ H j (ready_mono hj hji)
      have := low m inv hr j hj
      omega
    · subst hji; exact hy.qOp hi H
  | succ f ih =>
    intro m a inv hap hr hy H
    refine ⟨List.ne_nil_of_mem hr, fun j hj => ⟨low m inv hr j hj, ?_⟩⟩
    rcases Nat.decEq j i with hji | hji
    · obtain ⟨hju, oj, hoj, hdep⟩ := mem_ready.1 hj
      have nodep : ∀ e ∈ oj.after, Region.binds md e = true → e.on ≠ i := by
        intro e he hb hei
        have h1 := hdep e he hb
        rw [hei, getD_both (mem_ready.1 hr).1] at h1
        cases h1
      have h1 := (H.2 j (ready_mono hj hji)).2
      have h2 := qOp_put hoj (hap j oj hoj hji hju nodep) (fun cs b => sel i oi cs b hi) (fun cs b => sel j oj cs b hoj) hy h1
      refine qOp_mono (fun a' h3 => ?_) h2
      refine ih (m.setIfInBounds j true) a' (inv.set hj (low m inv hr j hj)) ?_ (ready_mono hr (Ne.symm hji)) h3.1 ?_
      · intro k ok hk hki hun hno
        refine hap k ok hk hki ?_ hno
        rcases Nat.decEq j k with hjk | hjk
        · rwa [getD_set_ne true hjk] at hun
        · subst hjk; exact hju
      · rw [Array.setIfInBounds_comm _ _ hji]; exact h3.2
    · subst hji; exact hy.qOp hi H

theorem headAny_lex {n g : Nat} {K : Act → Prop} (hns : Region.noSelect ops = true) (hs : Region.sinkB md ops n = true) (hc : Region.chainB md ops n = true) (hn : n < ops.size)
    (l : List Oper) : ∀ (k : Nat) (m : Array Bool) (a : Act), (∀ j, j < l.length → l[j]? = ops[k + j]?) → k + l.length = n → HeadInv md ops n m →
    Region.lexHead md ops g l.length k m = true → wpQuiet P ops C K l a →
    headAny P md ops C n (fun m' a' => Region.seqB md ops g n m' = true ∧ K a') l.length m a := by
  induction l with
  | nil =>
    intro k m a _ hk _ hB h
    have e : k = n := by simpa using hk
    subst e
    exact ⟨by simpa [Region.lexHead] using hB, h⟩
  | cons o l ih =>
    intro k m a hl hk inv hB h
    have ho : ops[k]? = some o := by simpa using (hl 0 (by simp)).symm
    simp only [List.length_cons, Region.lexHead, Bool.and_eq_true] at hB
    have hkn : k < n := by simp only [List.length_cons] at hk; omega
    have hr : k ∈ Region.ready md ops m := by simpa using hB.1.1
    have hq : qOp P ops C k (wpQuiet P ops C K l) a := by unfold qOp; simp only [ho]; exact h
    obtain ⟨v, hy, hK⟩ := yieldsIn_of_qOp ho hq
    refine headAny_swap ho hns hs hc hn hkn (fun m' a' hL => seqB_ready hL.1) l.length m a inv (Region.free_spec ho hB.1.2) hr hy ?_
    refine ih (k + 1) _ _ (fun j hj => ?_) (by simp only [List.length_cons] at hk; omega) (inv.set hr hkn) hB.2 hK
    have := hl (j + 1) (by simp; omega)
    simpa [Nat.add_assoc, Nat.add_comm 1 j] using this

theorem region_tail (C : World → Prop) {id : Nat} {Q : Exit → Act → World → Prop} {a : Act} {w : World} {l : List Oper} (n : Nat) (hm : P.follows .mixedOrders = true) (hB : Region.lexTailB .any l.toArray n = true)
    (hC : C w.drew) (h : wpQuiet P l.toArray C (fun a' => ∀ w', C w' → wpList P l.toArray Q (l.drop n) a' w') (l.take n) a) : (Code.region id l.toArray true).wp P Q a w := by
  simp only [Region.lexTailB, Bool.and_eq_true, decide_eq_true_eq] at hB
  obtain ⟨⟨⟨⟨hns, hn⟩, hs⟩, hc⟩, hlex⟩ := hB
  have hnl : n < l.length := by simpa using hn
  have ht : (l.take n).length = n := by simp; omega
  have hd : (l.drop n).length = l.toArray.size - n := by simp
  have inv : HeadInv .any l.toArray n (Array.replicate l.toArray.size false) :=
    ⟨by simp, fun j oj _ hl => absurd hl (by rw [getD_replicate_false]; exact Bool.false_ne_true), fun t _ h2 => getD_in (by simpa using h2) (getD_replicate_false _ _)⟩
  refine wp_region_any hm ?_
  have H := headAny_lex (P := P) (C := C) (md := .any) (g := l.toArray.size - n) hns hs hc hn (l.take n) 0 _ a
    (fun j hj => by have hj' : j < n := by rw [ht] at hj; exact hj
                    simp [hj']) (by simpa using ht) inv (by rw [ht]; exact hlex) h
  have := headAny_sound (Q := Q) (g := l.toArray.size - n) (fun m a' w' hw' hL => by
    have := wpAny_of_seq (md := .any) (Q' := Q) (l.drop n) n m a' w' (fun j => by simp [List.getElem?_drop]) (by rw [hd]; exact hL.1) (hL.2 w' hw')
    rwa [hd] at this) _ _ _ w.drew hC H
  rw [ht, show n + (l.toArray.size - n) = l.toArray.size by omega] at this
  exact this

/-- at the class of the worlds that come of w by draws -/
theorem tail0 {id : Nat} {Q : Exit → Act → World → Prop} {a : Act} {w : World} {l : List Oper} (n : Nat) (hm : P.follows .mixedOrders = true) (hB : Region.lexTailB .any l.toArray n = true)
    (h : wpQuiet P l.toArray (fun w' => ∃ n, w' = w.drewN n) (fun a' => ∀ w', (∃ n, w' = w.drewN n) → wpList P l.toArray Q (l.drop n) a' w') (l.take n) a) : (Code.region id l.toArray true).wp P Q a w :=
  region_tail (fun w' => ∃ n, w' = w.drewN n) n hm hB ⟨1, rfl⟩ h
theorem tailD {id : Nat} {Q : Exit → Act → World → Prop} {a : Act} {w : World} {k : Nat} {l : List Oper} (n : Nat) (hm : P.follows .mixedOrders = true) (hB : Region.lexTailB .any l.toArray n = true)
    (h : wpQuiet P l.toArray (fun w' => ∃ n, w' = w.drewN n) (fun a' => ∀ w', (∃ n, w' = w.drewN n) → wpList P l.toArray Q (l.drop n) a' w') (l.take n) a) : (Code.region id l.toArray true).wp P Q a (w.drewN k) :=
  region_tail (fun w' => ∃ n, w' = w.drewN n) n hm hB ⟨k + 1, rfl⟩ h
theorem all0 {id : Nat} {Q : Exit → Act → World → Prop} {a : Act} {w : World} {l : List Oper} (hm : P.follows .mixedOrders = true) (hB : Region.lexB .any l.toArray = true)
    (h : wpQuiet P l.toArray (fun w' => ∃ n, w' = w.drewN n) (fun a' => ∀ w', (∃ n, w' = w.drewN n) → Q .normal a' w') l a) : (Code.region id l.toArray true).wp P Q a w :=
  wp_region_quiet (C := fun w' => ∃ n, w' = w.drewN n) hm hB ⟨1, rfl⟩ (by simpa using h)
theorem allD {id : Nat} {Q : Exit → Act → World → Prop} {a : Act} {w : World} {k : Nat} {l : List Oper} (hm : P.follows .mixedOrders = true) (hB : Region.lexB .any l.toArray = true)
    (h : wpQuiet P l.toArray (fun w' => ∃ n, w' = w.drewN n) (fun a' => ∀ w', (∃ n, w' = w.drewN n) → Q .normal a' w') l a) : (Code.region id l.toArray true).wp P Q a (w.drewN k) :=
  wp_region_quiet (C := fun w' => ∃ n, w' = w.drewN n) hm hB ⟨k + 1, rfl⟩ (by simpa using h)

/-- .. all of whose operations are quiet. -/
theorem region_all (C : World → Prop) {id : Nat} {Q : Exit → Act → World → Prop} {a : Act} {w : World} {l : List Oper} (hm : P.follows .mixedOrders = true) (hB : Region.lexB .any l.toArray = true)
    (hC : C w.drew) (h : wpQuiet P l.toArray C (fun a' => ∀ w', C w' → Q .normal a' w') l a) : (Code.region id l.toArray true).wp P Q a w :=
  wp_region_quiet (C := C) hm hB hC (by simpa using h)

/-! the class of the worlds that may have grown -/
open Go.RowKit
def Later (w : World) : Type := { u : World // Below w.heap.size w u }
instance (w : World) : Nonempty (Later w) := ⟨⟨w, Below.refl _ _⟩⟩
def Later.now {w : World} (u : Later w) : World := u.1
theorem Later.below {w : World} (u : Later w) : Below w.heap.size w u.now := u.2
@[go_sem] theorem Later.cell {w : World} (u : Later w) (b o : Nat) (h : b < w.heap.size) : u.now.cell? ⟨b, o, none⟩ = w.cell? ⟨b, o, none⟩ := u.below.cell (p := ⟨b, o, none⟩) h
@[go_sem] theorem Later.frozen {w : World} (u : Later w) (b o : Nat) (h : b < w.heap.size) : u.now.frozen? ⟨b, o, none⟩ = w.frozen? ⟨b, o, none⟩ := u.below.frozen (p := ⟨b, o, none⟩) h
theorem Later.call {w : World} (u : Later w) {f : FuncId} {args : Array Value} {v : Value} (h : Calls P f args u.now fun e w' => e = .returned v ∧ Below u.now.heap.size u.now w') :
    Calls P f args u.now fun e w'' => e = .returned v ∧ ∃ u' : Later w, w'' = u'.now :=
  h.mono fun _ w' hh => ⟨hh.1, ⟨w', u.below.trans (hh.2.mono u.below.size)⟩, rfl⟩
theorem allL {id : Nat} {Q : Exit → Act → World → Prop} {a : Act} {w : World} {l : List Oper} (hm : P.follows .mixedOrders = true) (hB : Region.lexB .any l.toArray = true)
    (h : wpQuiet P l.toArray (fun w' => ∃ u : Later w, w' = u.now) (fun a' => ∀ w', (∃ u : Later w, w' = u.now) → Q .normal a' w') l a) : (Code.region id l.toArray true).wp P Q a w :=
  region_all (fun w' => ∃ u : Later w, w' = u.now) hm hB ⟨⟨w.drew, (Below.refl _ _).drew⟩, rfl⟩ h
theorem tailL {id : Nat} {Q : Exit → Act → World → Prop} {a : Act} {w : World} {l : List Oper} (n : Nat) (hm : P.follows .mixedOrders = true) (hB : Region.lexTailB .any l.toArray n = true)
    (h : wpQuiet P l.toArray (fun w' => ∃ u : Later w, w' = u.now) (fun a' => ∀ w', (∃ u : Later w, w' = u.now) → wpList P l.toArray Q (l.drop n) a' w') (l.take n) a) : (Code.region id l.toArray true).wp P Q a w :=
  region_tail (fun w' => ∃ u : Later w, w' = u.now) n hm hB ⟨⟨w.drew, (Below.refl _ _).drew⟩, rfl⟩ h
end Go.Proofs.YtackbjbmadkkhaaDoor
