/- A region that draws its order and makes memory: what each operation of its head gives is told by a predicate that later growth leaves true; each operation is walked once, whatever the order is; the tail comes last. -/
import Derived.Test.YtackbjbmadkkhaaDoorRegion
import Derived.Test.YtackbjbmadkkhaaDoorBase
namespace Go.Proofs.YtackbjbmadkkhaaDoor
open Go.RowKit
set_option linter.unusedSimpArgs false
set_option linter.unusedVariables false
/-- what an operation gives: a value outright, or one of which a predicate holds that growth leaves true -/
inductive SP where
  | eq (c : Value)
  | pred (q : Value → World → Prop) (st : ∀ v w w', Below w.heap.size w w' → q v w → q v w')
def SP.p : SP → Value → World → Prop
  | .eq c, v, _ => v = c
  | .pred q _, v, w => q v w
theorem SP.keep (R : SP) {v : Value} {w w' : World} (hb : Below w.heap.size w w') (h : R.p v w) : R.p v w' := by
  cases R with
  | eq c => exact h
  | pred q st => exact st v w w' hb h
def SP.any : SP := .pred (fun _ _ => True) (fun _ _ _ _ h => h)
/-- a pointer to a block of this content, made here -/
def SP.fresh (B : Nat) (cs : Array Value) (T : TypeId) : SP :=
  .pred (fun v w => ∃ g : Nat, v = .pointer (some ⟨g, 0, none⟩) ∧ B ≤ g ∧ w.heap[g]? = some (.cells cs T (0, 0)))
    (fun v w w' hb ⟨g, e, h1, h2⟩ => ⟨g, e, h1, by rw [hb.block _ (Array.getElem?_eq_some_iff.1 h2).1]; exact h2⟩)
def SP.of (l : List SP) (i : Nat) : SP := l.getD i SP.any
def upd (vals : Nat → Value) (i : Nat) (v : Value) : Nat → Value := fun j => if j = i then v else vals j
theorem upd_self {vals : Nat → Value} {i : Nat} {v : Value} (h : vals i = v) : upd vals i v = vals := by
  funext j
  unfold upd
  split
  · rename_i e; rw [e, h]
  · rfl
def putAll (a : Act) (vals : Nat → Value) : Nat → List Oper → Act
  | _, [] => a
  | i, o :: rest => (putAll a vals (i + 1) rest).put o.dst (vals i)
/-- a statement on the values, those in the list as the predicates say -/
def given (R : Nat → SP) (w : World) (body : (Nat → Value) → Prop) : List Nat → (Nat → Value) → Prop
  | [], vals => body vals
  | j :: l, vals => match R j with
    | .eq c => given R w body l (upd vals j c)
    | .pred q _ => ∀ x, q x w → given R w body l (upd vals j x)
theorem given_use {R : Nat → SP} {w : World} {body : (Nat → Value) → Prop} {vals : Nat → Value} : ∀ (l : List Nat), given R w body l vals → (∀ j ∈ l, (R j).p (vals j) w) → body vals
  | [], h, _ => h
  | j :: l, h, hp => by
    have h1 := hp j (List.mem_cons_self ..)
    unfold given at h
    cases hr : R j with
    | eq c =>
      rw [hr] at h h1
      have e := upd_self (vals := vals) (i := j) (v := c) h1
      simp only [e] at h
      exact given_use l h (fun k hk => hp k (List.mem_cons_of_mem _ hk))
    | pred q st =>
      rw [hr] at h h1
      have h2 := h (vals j) h1
      rw [upd_self rfl] at h2
      exact given_use l h2 (fun k hk => hp k (List.mem_cons_of_mem _ hk))
def depsOf (o : Oper) : List Nat := ((o.after.toList.filter (Region.binds .any)).map (·.on)).eraseDups
theorem mem_depsOf {o : Oper} {j : Nat} : j ∈ depsOf o ↔ ∃ e ∈ o.after, Region.binds .any e = true ∧ e.on = j := by
  simp [depsOf, and_assoc]
/-- what is to be shown at the end of an operation -/
def RelEnd (F : (Nat → Value) → Act) (R : SP) (dst : Option Tmp) (vals : Nat → Value) (w : World) (Q : Exit → Act → World → Prop) : Prop :=
  ∀ v w', Below w.heap.size w w' → R.p v w' → Q .normal ((F vals).put dst v) w'
theorem relEnd_fin {F : (Nat → Value) → Act} {R : SP} {dst : Option Tmp} {vals : Nat → Value} {w : World} {Q : Exit → Act → World → Prop} (h : Hid (RelEnd F R dst vals w Q)) (v : Value) {w' : World} {a : Act} (ha : a = (F vals).put dst v) (hb : Below w.heap.size w w') (hr : R.p v w') : Q .normal a w' := by
  rw [ha]; exact h.out v w' hb hr
def relObs (P : Program) (ops : Array Oper) (B : Nat) (w0 : World) (F : (Nat → Value) → Act) (R : Nat → SP) (ds : List (List Nat)) : Nat → List Oper → Prop
  | _, [] => True
  | i, o :: rest => (∀ (w : World), Below B w0 w → ∀ vals : Nat → Value, given R w (fun vals => ∀ Q : Exit → Act → World → Prop, Hid (RelEnd F (R i) o.dst vals w Q) → wpList P ops Q [o] (F vals) w) (ds.getD i []) vals) ∧ relObs P ops B w0 F R ds (i + 1) rest
def relPut (F : (Nat → Value) → Act) : Nat → List Oper → Prop
  | _, [] => True
  | i, o :: rest => (∀ vals v, (F vals).put o.dst v = F (upd vals i v)) ∧ relPut F (i + 1) rest
theorem relObs_at {P : Program} {ops : Array Oper} {B : Nat} {w0 : World} {F : (Nat → Value) → Act} {R : Nat → SP} {ds : List (List Nat)} : ∀ (l : List Oper) (k : Nat), relObs P ops B w0 F R ds k l → ∀ i o, l[i]? = some o →
    ∀ (w : World), Below B w0 w → ∀ (vals : Nat → Value), given R w (fun vals => ∀ Q : Exit → Act → World → Prop, Hid (RelEnd F (R (k + i)) o.dst vals w Q) → wpList P ops Q [o] (F vals) w) (ds.getD (k + i) []) vals
  | [], _, _, _, _, h => by cases h
  | o :: l, k, h, 0, o', ho => by cases ho; exact h.1
  | o :: l, k, h, i + 1, o', ho => by
    have := relObs_at l (k + 1) h.2 i o' ho
    rwa [show k + 1 + i = k + (i + 1) by omega] at this
theorem relPut_at {F : (Nat → Value) → Act} : ∀ (l : List Oper) (k : Nat), relPut F k l → ∀ i o, l[i]? = some o → ∀ vals v, (F vals).put o.dst v = F (upd vals (k + i) v)
  | [], _, _, _, _, h => by cases h
  | o :: l, k, h, 0, o', ho => by cases ho; exact h.1
  | o :: l, k, h, i + 1, o', ho => by
    have := relPut_at l (k + 1) h.2 i o' ho
    rwa [show k + 1 + i = k + (i + 1) by omega] at this
theorem wpOp_of_list {P : Program} {ops : Array Oper} {Q : Exit → Act → World → Prop} {i : Nat} {o : Oper} (ho : ops[i]? = some o) {K : Act → World → Prop} {a : Act} {w : World} (h : wpList P ops (Exit.then K Q) [o] a w) : wpOp P ops Q i K a w := by
  unfold wpOp
  simp only [ho]
  unfold wpList at h
  split
  · rename_i hw
    rw [if_pos hw] at h
    rcases h with h | ⟨h1, a', w', h2⟩
    · refine .inl ?_
      unfold Oper.wp at h ⊢
      generalize (execOp a.eval o).run P w = r at h ⊢
      cases r with
      | ok n w' =>
        cases n with
        | value v => exact h
        | skip => exact h
        | defer d => exact h
        | enter f args =>
          refine Calls.mono h ?_
          intro e w'' he
          cases e with
          | returned v => exact he
          | panicked c => exact he
          | outgrown => obtain ⟨a2, w2, h2⟩ := he; exact ⟨a2, w2, h2⟩
        | row row args => exact Rows.mono h (fun _ _ he => he)
        | _ => exact h
      | halt x w' =>
        cases x with
        | panic u => exact h
        | _ => exact h
    · exact .inr ⟨h1, a', w', h2⟩
  · rename_i hw
    rw [if_neg hw] at h
    exact h
/-- all of the head done, none of the tail -/
def headDone (n g : Nat) : Array Bool := (List.replicate n true ++ List.replicate g false).toArray
def relB (ops : Array Oper) (n : Nat) (ds : List (List Nat)) : Bool :=
  decide (n ≤ ops.size) && Region.sinkB .any ops n && Region.chainB .any ops n && Region.seqB .any ops (ops.size - n) n (headDone n (ops.size - n)) && (List.range n).all (fun i => ((ops[i]?).map (fun o => (depsOf o).all (fun j => decide (j < i)) && (ds.getD i []).all (fun j => (depsOf o).contains j))).getD false)
theorem least_undone (m : Array Bool) (n : Nat) (hm : n ≤ m.size) : (∀ i, i < n → m.getD i false = true) ∨ ∃ i, i < n ∧ m.getD i false = false ∧ ∀ j, j < i → m.getD j false = true := by
  induction n with
  | zero => exact .inl (fun i hi => absurd hi (Nat.not_lt_zero _))
  | succ n ih =>
    rcases ih (by omega) with h | ⟨i, hi, h1, h2⟩
    · cases hq : m.getD n false with
      | true => exact .inl (fun i hi => by rcases Nat.lt_or_ge i n with h' | h'; exact h i h'; rwa [show i = n by omega])
      | false => exact .inr ⟨n, Nat.lt_succ_self n, hq, fun j hj => h j hj⟩
    · exact .inr ⟨i, by omega, h1, h2⟩
/-- how many are not done -/
def undone (m : Array Bool) (n : Nat) : Nat := ((List.range n).filter (fun i => !m.getD i false)).length
theorem filter_set (m : Array Bool) (i : Nat) (hi : i < m.size) (hu : m.getD i false = false) (l : List Nat) (hl : l.Nodup) (hmem : i ∈ l) :
    (l.filter (fun j => !(m.setIfInBounds i true).getD j false)).length + 1 = (l.filter (fun j => !m.getD j false)).length := by
  induction l with
  | nil => cases hmem
  | cons x l ih =>
    have hx := List.nodup_cons.1 hl
    by_cases hxi : x = i
    · subst hxi
      have h1 : (m.setIfInBounds x true).getD x false = true := by simp [hi]
      have h2 : ∀ j ∈ l, (!(m.setIfInBounds x true).getD j false) = (!m.getD j false) := fun j hj => by rw [getD_set_ne false (fun e : x = j => hx.1 (by rw [e]; exact hj))]
      rw [List.filter_cons, List.filter_cons, h1, hu, List.filter_congr h2]
      simp
    · have h1 : (m.setIfInBounds i true).getD x false = m.getD x false := getD_set_ne false (fun e => hxi e.symm)
      have hm' : i ∈ l := by rcases List.mem_cons.1 hmem with h | h; exact absurd h.symm hxi; exact h
      have := ih hx.2 hm'
      rw [List.filter_cons, List.filter_cons, h1]
      split <;> simp_all <;> omega
theorem undone_set (m : Array Bool) (n i : Nat) (hin : i < n) (hi : i < m.size) (hu : m.getD i false = false) : undone (m.setIfInBounds i true) n + 1 = undone m n :=
  filter_set m i hi hu _ List.nodup_range (List.mem_range.2 hin)
theorem undone_zero {m : Array Bool} {n : Nat} (h : undone m n = 0) : ∀ i, i < n → m.getD i false = true := by
  intro i hi
  have h1 : (List.range n).filter (fun i => !m.getD i false) = [] := List.length_eq_zero_iff.1 h
  have := (List.filter_eq_nil_iff.1 h1) i (List.mem_range.2 hi)
  simpa using this
theorem undone_pos {m : Array Bool} {n i : Nat} (hi : i < n) (h : m.getD i false = false) : 0 < undone m n := by
  unfold undone
  refine List.length_pos_of_mem (a := i) (List.mem_filter.2 ⟨List.mem_range.2 hi, by simp [h]⟩)
theorem rel_sound {P : Program} {Q : Exit → Act → World → Prop} {l : List Oper} {n B : Nat} {w0 : World} {F : (Nat → Value) → Act} {R : Nat → SP} {ds : List (List Nat)} (hB : relB l.toArray n ds = true)
    (hput : relPut F 0 (l.take n)) (hobs : relObs P l.toArray B w0 F R ds 0 (l.take n)) (hfin : ∀ w, Below B w0 w → ∀ vals, given R w (fun vals => wpList P l.toArray Q (l.drop n) (F vals) w) (List.range n) vals) (hB0 : B ≤ w0.heap.size)
    (f : Nat) : ∀ (m : Array Bool) (vals : Nat → Value) (w : World), HeadInv .any l.toArray n m → undone m n = f → Below B w0 w → (∀ i, i < n → m.getD i false = true → (R i).p (vals i) w) →
      wpAny P .any l.toArray Q (f + (l.length - n)) m (F vals) w := by
  simp only [relB, Bool.and_eq_true, decide_eq_true_eq] at hB
  obtain ⟨⟨⟨⟨hn, hs⟩, hc⟩, hseq⟩, hdep⟩ := hB
  have hnl : n ≤ l.length := by simpa using hn
  induction f with
  | zero =>
    intro m vals w inv hu hb hR
    have hall := undone_zero hu
    have hm : m = headDone n (l.length - n) := by
      apply Array.ext_getElem?
      intro i
      have hsz : m.size = l.length := by simpa using inv.size
      unfold headDone
      simp only [List.getElem?_toArray]
      by_cases hi : i < n
      · have h1 := hall i hi
        rw [List.getElem?_append_left (by simpa using hi), List.getElem?_replicate, if_pos hi]
        have hi2 : i < m.size := by omega
        simp [hi2] at h1
        rw [Array.getElem?_eq_getElem hi2, h1]
      · by_cases hi2 : i < l.length
        · have h1 := inv.tail i (by omega) (by simpa using hi2)
          rw [List.getElem?_append_right (by simp; omega), List.getElem?_replicate, if_pos (by simp; omega)]
          have hi3 : i < m.size := by omega
          simp [hi3] at h1
          rw [Array.getElem?_eq_getElem hi3, h1]
        · rw [List.getElem?_append_right (by simp; omega), List.getElem?_replicate, if_neg (by simp; omega), Array.getElem?_eq_none (by omega)]
    have hd : (l.drop n).length = l.length - n := by simp
    have := wpAny_of_seq (md := .any) (P := P) (Q' := Q) (ops := l.toArray) (l.drop n) n m (F vals) w (fun j => by simp [List.getElem?_drop]) (by rw [hd, hm]; simpa using hseq)
      (given_use _ (hfin w hb vals) (fun j hj => hR j (List.mem_range.1 hj) (hall j (List.mem_range.1 hj))))
    rw [Nat.zero_add]
    rwa [hd] at this
  | succ f ih =>
    intro m vals w inv hu hb hR
    have hsz : m.size = l.length := by simpa using inv.size
    obtain ⟨i0, hi0, hun0, hdone0⟩ : ∃ i, i < n ∧ m.getD i false = false ∧ ∀ j, j < i → m.getD j false = true := by
      rcases least_undone m n (by omega) with h | h
      · have : undone m n = 0 := by
          unfold undone
          rw [List.length_eq_zero_iff, List.filter_eq_nil_iff]
          intro a ha
          rw [h a (List.mem_range.1 ha)]
          simp
        omega
      · exact h
    have hready0 : i0 ∈ Region.ready .any l.toArray m := by
      rw [mem_ready]
      have hlt : i0 < l.length := by omega
      refine ⟨getD_in (by omega) hun0, l[i0], by simp [hlt], fun e he hbn => ?_⟩
      have h1 := List.all_eq_true.1 hdep i0 (List.mem_range.2 hi0)
      simp only [List.getElem?_toArray, List.getElem?_eq_getElem hlt, Option.map_some, Option.getD_some, Bool.and_eq_true] at h1
      exact hdone0 _ (of_decide_eq_true (List.all_eq_true.1 h1.1 _ (mem_depsOf.2 ⟨e, he, hbn, rfl⟩)))
    have hne : Region.ready .any l.toArray m ≠ [] := List.ne_nil_of_mem hready0
    rw [show f + 1 + (l.length - n) = (f + (l.length - n)) + 1 by omega]
    refine ⟨fun h0 => absurd h0 hne, fun i hi => ?_⟩
    have hin : i < n := by
      rcases Nat.lt_or_ge i n with h | h
      · exact h
      · obtain ⟨_, oi, hoi, _⟩ := mem_ready.1 hi
        have hil : i < l.length := by have := (Array.getElem?_eq_some_iff.1 hoi).1; simpa using this
        exact absurd hi (tail_waits hs hc (by simp; omega) inv _ i0 rfl hi0 (getD_in (by omega) hun0) i h)
    obtain ⟨hund, oi, hoi, hdeps⟩ := mem_ready.1 hi
    have hoi2 : (l.take n)[i]? = some oi := by rw [List.getElem?_take, if_pos hin]; simpa using hoi
    have hui : m.getD i false = false := getD_both hund
    have hob := given_use _ (relObs_at (l.take n) 0 hobs i oi hoi2 w hb vals) (fun j hj => by
      have h1 := List.all_eq_true.1 hdep i (List.mem_range.2 hin)
      have hil : i < l.length := by omega
      have hoi3 : l[i]? = some oi := by simpa using hoi
      simp only [List.getElem?_toArray, hoi3, Option.map_some, Option.getD_some, Bool.and_eq_true] at h1
      rw [Nat.zero_add] at hj
      have hjd := List.contains_iff_mem.1 (List.all_eq_true.1 h1.2 j hj)
      obtain ⟨e, he, hbn, rfl⟩ := mem_depsOf.1 hjd
      have hlt := of_decide_eq_true (List.all_eq_true.1 h1.1 _ hjd)
      exact hR _ (by omega) (hdeps e he hbn))
    refine wpOp_of_list hoi (hob _ (Lib.hid ?_))
    intro v w' hb' hr
    show wpAny P .any l.toArray Q (f + (l.length - n)) (m.setIfInBounds i true) _ w'
    have hpu := relPut_at (l.take n) 0 hput i oi hoi2 vals v
    rw [hpu, Nat.zero_add]
    rw [Nat.zero_add] at hr
    have hus := undone_set m n i hin (by omega) hui
    refine ih _ _ _ (inv.set hi hin) (by omega) (hb.trans (hb'.mono (by have := hb.size; omega))) ?_
    intro j hj hjd
    unfold upd
    by_cases hji : j = i
    · subst hji
      rw [if_pos rfl]
      exact hr
    · rw [if_neg hji]
      rw [getD_set_ne false (fun e => hji e.symm)] at hjd
      exact (R j).keep hb' (hR j hj hjd)
theorem region_rel {P : Program} {id : Nat} {Q : Exit → Act → World → Prop} {a : Act} {w : World} {l : List Oper} (n : Nat) (ds : List (List Nat)) (R : Nat → SP) (vals0 : Nat → Value) (hm : P.follows .mixedOrders = true) (hB : relB l.toArray n ds = true)
    (ha : a = putAll a vals0 0 (l.take n)) (hput : relPut (fun vals => putAll a vals 0 (l.take n)) 0 (l.take n))
    (hobs : relObs P l.toArray w.heap.size w (fun vals => putAll a vals 0 (l.take n)) R ds 0 (l.take n))
    (hfin : ∀ w', Below w.heap.size w w' → ∀ vals, given R w' (fun vals => wpList P l.toArray Q (l.drop n) (putAll a vals 0 (l.take n)) w') (List.range n) vals) : (Code.region id l.toArray true).wp P Q a w := by
  refine wp_region_any hm ?_
  have hn : n ≤ l.length := by
    have h := hB
    simp only [relB, Bool.and_eq_true, decide_eq_true_eq] at h
    simpa using h.1.1.1.1
  have inv : HeadInv .any l.toArray n (Array.replicate l.toArray.size false) :=
    ⟨by simp, fun j oj _ hl => absurd hl (by rw [getD_replicate_false]; exact Bool.false_ne_true), fun t _ h2 => getD_in (by simpa using h2) (getD_replicate_false _ _)⟩
  have hu : undone (Array.replicate l.toArray.size false) n = n := by
    unfold undone
    rw [List.filter_eq_self.2 (fun i _ => by rw [getD_replicate_false]; rfl), List.length_range]
  have := rel_sound (P := P) (Q := Q) (w0 := w) (R := R) hB hput hobs hfin (Nat.le_refl _) n _ vals0 w.drew inv hu ((Below.refl _ _).drew) (fun i _ h => by rw [getD_replicate_false] at h; cases h)
  rw [show n + (l.length - n) = l.toArray.size by simp; omega] at this
  rw [ha]
  exact this
end Go.Proofs.YtackbjbmadkkhaaDoor
