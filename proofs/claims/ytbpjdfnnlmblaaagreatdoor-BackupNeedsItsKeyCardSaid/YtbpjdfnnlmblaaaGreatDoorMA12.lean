/- Parts of a proof, joined: contracts of functions of the program and plain lemmas (RegRelG, BakM, BakN). No condition. -/
import Derived.Test.YtbpjdfnnlmblaaaGreatDoorMA11
/- A region that draws its order and writes memory within a relation of worlds: as RegRel, the relation given. -/
namespace Go.Proofs.YtbpjdfnnlmblaaaGreatDoor
open Go.RowKit
set_option linter.unusedSimpArgs false
set_option linter.unusedVariables false
/-- worlds: J false ahead of the one operation c that writes, J true behind it; the others may but grow (E0); Rl: what leaves the predicates true -/
structure RelOK (Rl E0 : World → World → Prop) (J : Bool → World → Prop) : Prop where
  sub : ∀ a b, E0 a b → Rl a b
  keep : ∀ d a b, J d a → E0 a b → J d b
/-- what operation i may do -/
def effG (Rl E0 : World → World → Prop) (J : Bool → World → Prop) (c i : Nat) (w w' : World) : Prop := if i = c then Rl w w' ∧ J true w' else E0 w w'
variable {Rl : World → World → Prop}
inductive SPG (Rl : World → World → Prop) where
  | eq (c : Value)
  | pred (q : Value → World → Prop) (st : ∀ v w w', Rl w w' → q v w → q v w')
def SPG.p : SPG Rl → Value → World → Prop
  | .eq c, v, _ => v = c
  | .pred q _, v, w => q v w
theorem SPG.keep (R : SPG Rl) {v : Value} {w w' : World} (hb : Rl w w') (h : R.p v w) : R.p v w' := by
  cases R with
  | eq c => exact h
  | pred q st => exact st v w w' hb h
def SPG.any : SPG Rl := .pred (fun _ _ => True) (fun _ _ _ _ h => h)
def SPG.of (l : List (SPG Rl)) (i : Nat) : SPG Rl := l.getD i SPG.any
/-- a statement on the values, those in the list as the predicates say -/
def givenG (R : Nat → SPG Rl) (w : World) (body : (Nat → Value) → Prop) : List Nat → (Nat → Value) → Prop
  | [], vals => body vals
  | j :: l, vals => match R j with
    | .eq c => givenG R w body l (upd vals j c)
    | .pred q _ => ∀ x, q x w → givenG R w body l (upd vals j x)
theorem given_useG {R : Nat → SPG Rl} {w : World} {body : (Nat → Value) → Prop} {vals : Nat → Value} : ∀ (l : List Nat), givenG R w body l vals → (∀ j ∈ l, (R j).p (vals j) w) → body vals
  | [], h, _ => h
  | j :: l, h, hp => by
    have h1 := hp j (List.mem_cons_self ..)
    unfold givenG at h
    cases hr : R j with
    | eq c =>
      rw [hr] at h h1
      have e := upd_self (vals := vals) (i := j) (v := c) h1
      simp only [e] at h
      exact given_useG l h (fun k hk => hp k (List.mem_cons_of_mem _ hk))
    | pred q st =>
      rw [hr] at h h1
      have h2 := h (vals j) h1
      rw [upd_self rfl] at h2
      exact given_useG l h2 (fun k hk => hp k (List.mem_cons_of_mem _ hk))
/-- what is to be shown at the end of an operation -/
def RelEndG (Ef : World → World → Prop) (F : (Nat → Value) → Act) (R : SPG Rl) (dst : Option Tmp) (vals : Nat → Value) (w : World) (Q : Exit → Act → World → Prop) : Prop :=
  ∀ v w', Ef w w' → R.p v w' → Q .normal ((F vals).put dst v) w'
theorem relEnd_finG {Ef : World → World → Prop} {F : (Nat → Value) → Act} {R : SPG Rl} {dst : Option Tmp} {vals : Nat → Value} {w : World} {Q : Exit → Act → World → Prop} (h : Hid (RelEndG Ef F R dst vals w Q)) (v : Value) {w' : World} {a : Act} (ha : a = (F vals).put dst v) (hb : Ef w w') (hr : R.p v w') : Q .normal a w' := by
  rw [ha]; exact h.out v w' hb hr
def relObsG (P : Program) (ops : Array Oper) (E0 : World → World → Prop) (J : Bool → World → Prop) (c : Nat) (F : (Nat → Value) → Act) (R : Nat → SPG Rl) (ds : List (List Nat)) : Nat → List Oper → Prop
  | _, [] => True
  | i, o :: rest => (∀ (d : Bool) (w : World), (i = c → d = false) → J d w → ∀ vals : Nat → Value, givenG R w (fun vals => ∀ Q : Exit → Act → World → Prop, Hid (RelEndG (effG Rl E0 J c i) F (R i) o.dst vals w Q) → wpList P ops Q [o] (F vals) w) (ds.getD i []) vals) ∧ relObsG P ops E0 J c F R ds (i + 1) rest
theorem relObs_atG {P : Program} {ops : Array Oper} {E0 : World → World → Prop} {J : Bool → World → Prop} {c : Nat} {F : (Nat → Value) → Act} {R : Nat → SPG Rl} {ds : List (List Nat)} : ∀ (l : List Oper) (k : Nat), relObsG P ops E0 J c F R ds k l → ∀ i o, l[i]? = some o →
    ∀ (d : Bool) (w : World), (k + i = c → d = false) → J d w → ∀ (vals : Nat → Value), givenG R w (fun vals => ∀ Q : Exit → Act → World → Prop, Hid (RelEndG (effG Rl E0 J c (k + i)) F (R (k + i)) o.dst vals w Q) → wpList P ops Q [o] (F vals) w) (ds.getD (k + i) []) vals
  | [], _, _, _, _, h => by cases h
  | o :: l, k, h, 0, o', ho => by cases ho; exact h.1
  | o :: l, k, h, i + 1, o', ho => by
    have := relObs_atG l (k + 1) h.2 i o' ho
    rwa [show k + 1 + i = k + (i + 1) by omega] at this
theorem rel_soundG {E0 : World → World → Prop} {J : Bool → World → Prop} {c : Nat} (hr0 : RelOK Rl E0 J) {P : Program} {Q : Exit → Act → World → Prop} {l : List Oper} {n : Nat} (hcn : c < n) {F : (Nat → Value) → Act} {R : Nat → SPG Rl} {ds : List (List Nat)} (hB : relB l.toArray n ds = true)
    (hput : relPut F 0 (l.take n)) (hobs : relObsG P l.toArray E0 J c F R ds 0 (l.take n)) (hfin : ∀ w, J true w → ∀ vals, givenG R w (fun vals => wpList P l.toArray Q (l.drop n) (F vals) w) (List.range n) vals)
    (f : Nat) : ∀ (m : Array Bool) (vals : Nat → Value) (w : World), HeadInv .any l.toArray n m → undone m n = f → J (m.getD c false) w → (∀ i, i < n → m.getD i false = true → (R i).p (vals i) w) →
      wpAny P .any l.toArray Q (f + (l.length - n)) m (F vals) w := by
  simp only [relB, Bool.and_eq_true, decide_eq_true_eq] at hB
  obtain ⟨⟨⟨⟨hn, hs⟩, hc⟩, hseq⟩, hdep⟩ := hB
  have hnl : n ≤ l.length := by simpa using hn
  induction f with
  | zero =>
    intro m vals w inv hu hb hR
    have hall := undone_zero hu
    have hm : m = headDone n (l.length - n) := by
      apply Array.ext_getElem?
      intro i
      have hsz : m.size = l.length := by simpa using inv.size
      unfold headDone
      simp only [List.getElem?_toArray]
      by_cases hi : i < n
      · have h1 := hall i hi
        rw [List.getElem?_append_left (by simpa using hi), List.getElem?_replicate, if_pos hi]
        have hi2 : i < m.size := by omega
        simp [hi2] at h1
        rw [Array.getElem?_eq_getElem hi2, h1]
      · by_cases hi2 : i < l.length
        · have h1 := inv.tail i (by omega) (by simpa using hi2)
          rw [List.getElem?_append_right (by simp; omega), List.getElem?_replicate, if_pos (by simp; omega)]
          have hi3 : i < m.size := by omega
          simp [hi3] at h1
          rw [Array.getElem?_eq_getElem hi3, h1]
        · rw [List.getElem?_append_right (by simp; omega), List.getElem?_replicate, if_neg (by simp; omega), Array.getElem?_eq_none (by omega)]
    have hd : (l.drop n).length = l.length - n := by simp
    have := wpAny_of_seq (md := .any) (P := P) (Q' := Q) (ops := l.toArray) (l.drop n) n m (F vals) w (fun j => by simp [List.getElem?_drop]) (by rw [hd, hm]; simpa using hseq)
      (given_useG _ (hfin w (by rwa [hall c hcn] at hb) vals) (fun j hj => hR j (List.mem_range.1 hj) (hall j (List.mem_range.1 hj))))
    rw [Nat.zero_add]
    rwa [hd] at this
  | succ f ih =>
    intro m vals w inv hu hb hR
    have hsz : m.size = l.length := by simpa using inv.size
    obtain ⟨i0, hi0, hun0, hdone0⟩ : ∃ i, i < n ∧ m.getD i false = false ∧ ∀ j, j < i → m.getD j false = true := by
      rcases least_undone m n (by omega) with h | h
      · have : undone m n = 0 := by
          unfold undone
          rw [List.length_eq_zero_iff, List.filter_eq_nil_iff]
          intro a ha
          rw [h a (List.mem_range.1 ha)]
          simp
        omega
      · exact h
    have hready0 : i0 ∈ Region.ready .any l.toArray m := by
      rw [mem_ready]
      have hlt : i0 < l.length := by omega
      refine ⟨getD_in (by omega) hun0, l[i0], by simp [hlt], fun e he hbn => ?_⟩
      have h1 := List.all_eq_true.1 hdep i0 (List.mem_range.2 hi0)
      simp only [List.getElem?_toArray, List.getElem?_eq_getElem hlt, Option.map_some, Option.getD_some, Bool.and_eq_true] at h1
      exact hdone0 _ (of_decide_eq_true (List.all_eq_true.1 h1.1 _ (mem_depsOf.2 ⟨e, he, hbn, rfl⟩)))
    have hne : Region.ready .any l.toArray m ≠ [] := List.ne_nil_of_mem hready0
    rw [show f + 1 + (l.length - n) = (f + (l.length - n)) + 1 by omega]
    refine ⟨fun h0 => absurd h0 hne, fun i hi => ?_⟩
    have hin : i < n := by
      rcases Nat.lt_or_ge i n with h | h
      · exact h
      · obtain ⟨_, oi, hoi, _⟩ := mem_ready.1 hi
        have hil : i < l.length := by have := (Array.getElem?_eq_some_iff.1 hoi).1; simpa using this
        exact absurd hi (tail_waits hs hc (by simp; omega) inv _ i0 rfl hi0 (getD_in (by omega) hun0) i h)
    obtain ⟨hund, oi, hoi, hdeps⟩ := mem_ready.1 hi
    have hoi2 : (l.take n)[i]? = some oi := by rw [List.getElem?_take, if_pos hin]; simpa using hoi
    have hui : m.getD i false = false := getD_both hund
    have hob := given_useG _ (relObs_atG (l.take n) 0 hobs i oi hoi2 (m.getD c false) w (fun e => by rw [← e, Nat.zero_add]; exact hui) hb vals) (fun j hj => by
      have h1 := List.all_eq_true.1 hdep i (List.mem_range.2 hin)
      have hil : i < l.length := by omega
      have hoi3 : l[i]? = some oi := by simpa using hoi
      simp only [List.getElem?_toArray, hoi3, Option.map_some, Option.getD_some, Bool.and_eq_true] at h1
      rw [Nat.zero_add] at hj
      have hjd := List.contains_iff_mem.1 (List.all_eq_true.1 h1.2 j hj)
      obtain ⟨e, he, hbn, rfl⟩ := mem_depsOf.1 hjd
      have hlt := of_decide_eq_true (List.all_eq_true.1 h1.1 _ hjd)
      exact hR _ (by omega) (hdeps e he hbn))
    refine wpOp_of_list hoi (hob _ (Lib.hid ?_))
    intro v w' hb' hr
    show wpAny P .any l.toArray Q (f + (l.length - n)) (m.setIfInBounds i true) _ w'
    have hpu := relPut_at (l.take n) 0 hput i oi hoi2 vals v
    rw [hpu, Nat.zero_add]
    rw [Nat.zero_add] at hr
    have hus := undone_set m n i hin (by omega) hui
    rw [Nat.zero_add] at hb'
    have hRl : Rl w w' := by
      unfold effG at hb'
      split at hb'
      · exact hb'.1
      · exact hr0.sub _ _ hb'
    have hJ' : J ((m.setIfInBounds i true).getD c false) w' := by
      unfold effG at hb'
      split at hb'
      · rename_i e
        subst e
        have : (m.setIfInBounds i true).getD i false = true := by
          have hi9 : i < m.size := by omega
          simp [hi9]
        rw [this]
        exact hb'.2
      · rename_i e
        rw [getD_set_ne false e]
        exact hr0.keep _ _ _ hb hb'
    refine ih _ _ _ (inv.set hi hin) (by omega) hJ' ?_
    intro j hj hjd
    unfold upd
    by_cases hji : j = i
    · subst hji
      rw [if_pos rfl]
      exact hr
    · rw [if_neg hji]
      rw [getD_set_ne false (fun e => hji e.symm)] at hjd
      exact (R j).keep hRl (hR j hj hjd)
theorem region_relG {E0 : World → World → Prop} {J : Bool → World → Prop} (c : Nat) (hr0 : RelOK Rl E0 J) {P : Program} {id : Nat} {Q : Exit → Act → World → Prop} {a : Act} {w : World} {l : List Oper} (n : Nat) (hcn : c < n) (ds : List (List Nat)) (R : Nat → SPG Rl) (vals0 : Nat → Value) (hm : P.follows .mixedOrders = true) (hB : relB l.toArray n ds = true)
    (ha : a = putAll a vals0 0 (l.take n)) (hput : relPut (fun vals => putAll a vals 0 (l.take n)) 0 (l.take n)) (hJ0 : J false w.drew)
    (hobs : relObsG P l.toArray E0 J c (fun vals => putAll a vals 0 (l.take n)) R ds 0 (l.take n))
    (hfin : ∀ w', J true w' → ∀ vals, givenG R w' (fun vals => wpList P l.toArray Q (l.drop n) (putAll a vals 0 (l.take n)) w') (List.range n) vals) : (Code.region id l.toArray true).wp P Q a w := by
  refine wp_region_any hm ?_
  have hn : n ≤ l.length := by
    have h := hB
    simp only [relB, Bool.and_eq_true, decide_eq_true_eq] at h
    simpa using h.1.1.1.1
  have inv : HeadInv .any l.toArray n (Array.replicate l.toArray.size false) :=
    ⟨by simp, fun j oj _ hl => absurd hl (by rw [getD_replicate_false]; exact Bool.false_ne_true), fun t _ h2 => getD_in (by simpa using h2) (getD_replicate_false _ _)⟩
  have hu : undone (Array.replicate l.toArray.size false) n = n := by
    unfold undone
    rw [List.filter_eq_self.2 (fun i _ => by rw [getD_replicate_false]; rfl), List.length_range]
  have := rel_soundG hr0 (P := P) (Q := Q) (R := R) hcn hB hput hobs hfin n _ vals0 w.drew inv hu (by rw [getD_replicate_false]; exact hJ0) (fun i _ h => by rw [getD_replicate_false] at h; cases h)
  rw [show n + (l.length - n) = l.toArray.size by simp; omega] at this
  rw [ha]
  exact this
theorem effG_ne {E0 : World → World → Prop} {J : Bool → World → Prop} {c i : Nat} {w w' : World} (h : i ≠ c) (he : E0 w w') : effG Rl E0 J c i w w' := by
  unfold effG
  rw [if_neg h]
  exact he
theorem effG_eq {E0 : World → World → Prop} {J : Bool → World → Prop} {c : Nat} {w w' : World} (h1 : Rl w w') (h2 : J true w') : effG Rl E0 J c c w w' := by
  unfold effG
  rw [if_pos rfl]
  exact ⟨h1, h2⟩
theorem givenG_nil {R : Nat → SPG Rl} {w : World} {body : (Nat → Value) → Prop} {vals : Nat → Value} (h : body vals) : givenG R w body [] vals := h
theorem givenG_eq {R : Nat → SPG Rl} {w : World} {body : (Nat → Value) → Prop} {vals : Nat → Value} {j : Nat} {l : List Nat} {c : Value} (hr : R j = .eq c) (h : givenG R w body l (upd vals j c)) : givenG R w body (j :: l) vals := by
  unfold givenG
  rw [hr]
  exact h
theorem givenG_pred {R : Nat → SPG Rl} {w : World} {body : (Nat → Value) → Prop} {vals : Nat → Value} {j : Nat} {l : List Nat} {q : Value → World → Prop} {st : ∀ v w w', Rl w w' → q v w → q v w'} (hr : R j = .pred q st) (h : ∀ x, q x w → givenG R w body l (upd vals j x)) : givenG R w body (j :: l) vals := by
  unfold givenG
  rw [hr]
  exact h
end Go.Proofs.YtbpjdfnnlmblaaaGreatDoor
/- Open. -/
namespace Go.Proofs.YtbpjdfnnlmblaaaGreatDoor
open Go.RowKit Go.Shelf
set_option linter.unusedSimpArgs false
set_option linter.unusedVariables false
/-- keys out of the elements, and the error -/
def foldK (ss : List (List UInt8)) (e : Int) : List K × Int := ss.foldl (fun p s => (p.1 ++ [keyK s p.2], keyE s p.2)) ([], e)
theorem foldK_nil (e : Int) : foldK [] e = ([], e) := rfl
theorem foldK_snoc (ss : List (List UInt8)) (s : List UInt8) (e : Int) : foldK (ss ++ [s]) e = ((foldK ss e).1 ++ [keyK s (foldK ss e).2], keyE s (foldK ss e).2) := by unfold foldK; rw [List.foldl_append]; rfl
theorem foldK_take (ss : List (List UInt8)) (j : Nat) (h : j < ss.length) (e : Int) : foldK (ss.take (j + 1)) e = ((foldK (ss.take j) e).1 ++ [keyK ss[j] (foldK (ss.take j) e).2], keyE ss[j] (foldK (ss.take j) e).2) := by
  rw [List.take_add_one, List.getElem?_eq_getElem h]
  exact foldK_snoc _ _ _
theorem foldK_lenG (ss : List (List UInt8)) : ∀ (acc : List K) (e : Int), (ss.foldl (fun p s => (p.1 ++ [keyK s p.2], keyE s p.2)) (acc, e)).1.length = acc.length + ss.length := by
  induction ss with
  | nil => intro acc e; rfl
  | cons s ss ih => intro acc e; rw [List.foldl_cons, ih, List.length_append, List.length_cons]; simp; omega
theorem foldK_len (ss : List (List UInt8)) (e : Int) : (foldK ss e).1.length = ss.length := by
  unfold foldK
  rw [foldK_lenG]
  simp
/-- what is sealed: the keys, the error -/
def ctK (t : List UInt8) : List K := (foldK (rdV [] decSs t 0) (whX decSs t 0)).1
def ctE (t : List UInt8) : Int := (foldK (rdV [] decSs t 0) (whX decSs t 0)).2
def blH (blob : List UInt8) : List UInt8 := rdV [] decS blob 0
def blB (blob : List UInt8) : BK := hdB (blH blob) (rdX decS blob 0)
def blE (blob : List UInt8) : Int := hdX (blH blob) (rdX decS blob 0)
def blT (dk blob : List UInt8) : List UInt8 := openX (deriveP dk bkL) (blH blob) (rdR decS blob 0)
def blO (dk blob : List UInt8) : Int := openE (deriveP dk bkL) (blH blob) (rdR decS blob 0)
/-- the error of Open -/
def opE (dk blob : List UInt8) : Int :=
  if dk.length = 32 then (if blE blob = 0 then (if blO dk blob = 0 then (if ctE (blT dk blob) = 0 ∧ validB (blB blob) (ctK (blT dk blob)) = false then 6 else ctE (blT dk blob)) else blO dk blob) else blE blob) else 1
def opB (dk blob : List UInt8) : BK := if opE dk blob = 0 then blB blob else zB
def opK (dk blob : List UInt8) : List K := if opE dk blob = 0 then ctK (blT dk blob) else []
theorem built_z : Tryz.prog.built 26 [] = some (bc zB nilS) := by kernel_rfl
attribute [local irreducible] Calls rc drow validB deriveP openX openE
set_option maxRecDepth 100000 in
set_option maxHeartbeats 4000000 in
theorem open_no32 (dk blob : List UInt8) (w : World) (h : ¬ dk.length = 32) :
    Calls Tryz.prog 22 #[.string ⟨dk.toArray⟩, .string ⟨blob.toArray⟩] w fun en w' => en = .returned (.tuple #[.agg (bc zB nilS), .int .i64 1]) ∧ Below w.heap.size w w' := by
  have hz := zero_bk
  have i1 : ((dk.length : Int) != 32) = true := by simp; omega
  have HK0 : Hid ((w.alloc (.cells (bc zB nilS) 26)).heap[w.heap.size]? = some (.cells (bc zB nilS) 26 (0, 0))) := Lib.hid (heap_last _ _ _ rfl)
  clear h
  go_enter Tryz.func22, Tryz.ntmps22
  go_wp2_with (first
    | (refine wpList_build rfl 26 #[] rfl (by simp only [List.map_toArray, List.map_nil]; rw [built_z]; rfl) ?_; simp only [List.map_toArray, List.map_nil]; rw [built_z]; simp only [Option.getD_some])
    | (refine wpList_store_row rfl 26 (.tmp 4) (.tmp 16) rfl w.heap.size (bc zB nilS) rfl rfl _ _ HK0.out (by rw [bc_size]; exact info_b) rfl (bcone _ _ _ _) ?_))
  refine bodyPost_ret (results_row2 rfl _ _ w.heap.size _ rfl (run_bkrow _ _ zB nilS _ HK0.out)) rfl ?_
  exact ⟨rfl, (Below.refl _ _).alloc (Nat.le_refl _) _⟩
theorem rc_some (v : Value) (e : Int) (h : List UInt8) : rc v e (some h) = #[v, .int .i64 e, .string ⟨h.toArray⟩] := by unfold rc tlc; rfl
theorem run_stcells (w : World) (g : Nat) (b b0 : BK) (u0 : Value) (a : Option Addr) (n c : Nat) (hg : w.heap[g]? = some (.cells (bc b0 u0) 26 (0, 0))) : (storeCells ⟨g, 0, none⟩ (bc b (.slice a n c)).toList).run Tryz.prog w = .ok () (w.setRow g (bc b (.slice a n c))) := by
  have h1 : (bc b (.slice a n c)).toList.length = 38 := by rw [Array.length_toList]; exact bc_size _ _
  have h2 : (bc b0 u0).toList.length = 38 := by rw [Array.length_toList]; exact bc_size _ _
  have h := run_storeCells_at (P := Tryz.prog) g 0 26 (bc b (.slice a n c)).toList 0 (bc b0 u0) w hg (by rw [h1, bc_size]; decide) (fun v hv => (Array.all_eq_true_iff_forall_mem.1 (bcone b a n c)) v (by simpa using hv))
  rw [h1, Nat.add_zero, List.take_zero, Nat.zero_add, List.drop_eq_nil_of_le (by omega), List.nil_append, List.append_nil, Array.toArray_toList] at h
  exact h
theorem openX_len (key ad t : List UInt8) : (openX key ad t).length ≤ t.length := by
  unfold openX
  split
  · unfold openP
    split
    · show (xorP _ _ _).length ≤ _
      rw [xorP_len]
      unfold bC
      rw [List.length_take, List.length_drop]
      omega
    · exact Nat.zero_le _
  · exact Nat.zero_le _
theorem mo_len (hdr : List UInt8) (e : Int) : (hdB hdr e).mo.length ≤ hdr.length := by
  unfold hdB
  exact Nat.le_trans (rdVS_len _ _) (Nat.le_trans (rdR_len _ _ _) (Nat.le_trans (rdR_len _ _ _) (rdR_len _ _ _)))
theorem rdVI_ok (p : List UInt8) (e : Int) : ∀ x ∈ rdV [] decIs p e, okI x := by
  rcases rd_parts [] decIs p e with ⟨_, p3, _⟩ | ⟨_, _, p3, _⟩ | ⟨_, p2, p3, _⟩
  · rw [p3]; intro x hx; cases hx
  · rw [p3]; intro x hx; cases hx
  · rw [p3]
    exact (codecIs.back p _ _ (show decIs p = ((decIs p).1, (decIs p).2.1, 0) by rw [← p2])).2.2.1
theorem okI_0 : okI 0 := by unfold okI; omega
theorem getD_ok (l : List Int) (h : ∀ x ∈ l, okI x) (j : Nat) : okI (l.getD j 0) := by
  rw [List.getD_eq_getElem?_getD]
  cases hq : l[j]? with
  | none => exact okI_0
  | some x => exact h x (List.mem_of_getElem? hq)
theorem raw_ok (b : Bool) : okI (rawI b) := by cases b <;> (unfold rawI okI; simp)
theorem keyK_num (s : List UInt8) (e : Int) : ∀ x ∈ numsK (keyK s e), okI x := by
  unfold keyK
  split
  · unfold mkK numsK
    have h := rdVI_ok ((rdV [] decSs s e).getD 0 []) 0
    intro x hx
    simp only [List.mem_cons, List.not_mem_nil, or_false] at hx
    rcases hx with rfl | rfl | rfl | rfl | rfl | rfl | rfl | rfl <;> first | exact getD_ok _ h _ | exact raw_ok _
  · unfold zK numsK
    intro x hx
    simp only [List.mem_cons, List.not_mem_nil, or_false] at hx
    rcases hx with rfl | rfl | rfl | rfl | rfl | rfl | rfl | rfl <;> first | exact okI_0 | exact raw_ok _
theorem foldK_num (ss : List (List UInt8)) (e : Int) : ∀ k ∈ (foldK ss e).1, ∀ x ∈ numsK k, okI x := by
  have h : ∀ (ss : List (List UInt8)) (acc : List K) (e : Int), (∀ k ∈ acc, ∀ x ∈ numsK k, okI x) → ∀ k ∈ (ss.foldl (fun p s => (p.1 ++ [keyK s p.2], keyE s p.2)) (acc, e)).1, ∀ x ∈ numsK k, okI x := by
    intro ss
    induction ss with
    | nil => intro acc e h; exact h
    | cons s ss ih =>
      intro acc e h
      rw [List.foldl_cons]
      refine ih _ _ ?_
      intro k hk
      rcases List.mem_append.1 hk with hk | hk
      · exact h k hk
      · rw [List.mem_singleton.1 hk]; exact keyK_num s e
  exact h ss [] e (by intro k hk; cases hk)
theorem numK_of {l : List K} (h : ∀ k ∈ l, ∀ x ∈ numsK k, okI x) : numK l := fun i hi => by rw [keyAt_eq l i hi]; exact h _ (List.getElem_mem hi)
theorem rdK_nil (w : World) : RdK w nilS [] := ⟨none, 0, rfl, Nat.le_refl _, by unfold maxLen; omega, fun h => absurd h (by simp)⟩
/-- what lies in memory while the keys are read -/
structure OL (wL : World) (gb gc : Nat) (b : BK) (vc : Value) (x : World) (ks : List K) (e : Int) : Prop where
  bk : ∃ vk, x.heap[gb]? = some (.cells (bc b vk) 26 (0, 0)) ∧ OwnK x wL.heap.size vk ks
  rv : RV x gc 66 none vc e
  keep : ∀ k, k < wL.heap.size → k ≠ gb → k ≠ gc → x.heap[k]? = wL.heap[k]?
  os : x.os = wL.os
  tape : x.tape = wL.tape
  output : x.output = wL.output
  size : wL.heap.size ≤ x.heap.size
  ne : gb ≠ gc
  gb : gb < wL.heap.size
  gc : gc < wL.heap.size
theorem rdVL_num (s : List UInt8) (e : Int) : (rdV [] decSs s e).length ≤ s.length := by
  rcases rd_parts [] decSs s e with ⟨_, p3, _⟩ | ⟨_, _, p3, _⟩ | ⟨_, p2, p3, _⟩
  · rw [p3]; exact Nat.zero_le _
  · rw [p3]; exact Nat.zero_le _
  · rw [p3]
    have h3 := congrArg List.length (decL_ok codecS s _ _ (show decL decS s = ((decSs s).1, (decSs s).2.1, 0) by rw [← p2]; rfl)).1
    have hge : (decSs s).1.length ≤ (catE encS (decSs s).1).length := by
      generalize (decSs s).1 = l
      induction l with
      | nil => exact Nat.zero_le _
      | cons x l ih => rw [catE_cons, List.length_append, List.length_cons]; have := encS_pos x; omega
    unfold encL at h3
    rw [List.length_append, List.length_append] at h3
    omega
theorem row_k1 {w : World} {g : Nat} {km : K} {T : TypeId} (hg : w.heap[g]? = some (.cells (kc km) T (0, 0))) : RdK w (.slice (some ⟨g, 0, none⟩) 1 1) [km] :=
  ⟨_, 1, rfl, Nat.le_refl _, by unfold maxLen; omega, fun _ => ⟨g, 0, rfl, (Array.getElem?_eq_some_iff.1 hg).1, fun j hj i hi => by
    have : j = 0 := by simpa using hj
    subst this
    rw [cell_of_row _ _ _ _ _ _ hg]
    simp [keyAt]⟩⟩
def SPG.key (gc : Nat) (km : K) : SPG (fun x y : World => x.grownBy y (some gc)) := .pred (fun x w => ∃ g1, x = .slice (some ⟨g1, 0, none⟩) 1 1 ∧ gc < g1 ∧ w.heap[g1]? = some (.cells (kc km) 45 (0, 0)))
  (fun _ _ _ hb ⟨g1, h1, h2, h3⟩ => ⟨g1, h1, h2, row_by h3 hb (by omega)⟩)
theorem ol_step {wL wr wq w7 : World} {gb gc : Nat} {b : BK} {vc vk v7 : Value} {ks ks2 : List K} {e e2 : Int} (h : OL wL gb gc b vc wr ks e) (hg : wr.grownBy wq (some gc)) (hv : RV wq gc 66 none vc e2) (hb : Below wL.heap.size wq w7)
    (hr : w7.heap[gb]? = some (.cells (bc b vk) 26 (0, 0))) (ho : OwnK w7 wL.heap.size v7 ks2) : OL wL gb gc b vc (w7.setRow gb (bc b v7)) ks2 e2 := by
  refine ⟨⟨v7, setRow_heap _ _ _ _ _ _ hr, ?_⟩, ?_, ?_, ?_, ?_, ?_, ?_, h.ne, h.gb, h.gc⟩
  · exact ho.grown (grown_setRow _ _ _) (fun g2 hg2 => by cases hg2; exact ho.neOld h.gb)
  · unfold RV
    rw [setRow_else _ _ _ _ (fun e => h.ne e.symm), hb.block _ h.gc]
    exact hv
  · intro k hk h1 h2
    rw [setRow_else _ _ _ _ h1, hb.block _ hk, hg.block k (Nat.lt_of_lt_of_le hk h.size) (fun e => h2 (Option.some.inj e))]
    exact h.keep k hk h1 h2
  · exact (hb.os.trans hg.os).trans h.os
  · exact (hb.tape.trans hg.tape).trans h.tape
  · exact (hb.output.trans hg.output).trans h.output
  · rw [setRow_size]; exact Nat.le_trans (Nat.le_trans h.size hg.size) hb.size
theorem ol_below {w wL wr : World} {gb gc : Nat} {b : BK} {vc : Value} {ks : List K} {e : Int} (h : OL wL gb gc b vc wr ks e) (hw : Below w.heap.size w wL) (h1 : w.heap.size ≤ gb) (h2 : w.heap.size ≤ gc) : Below w.heap.size w wr :=
  ⟨h.os.trans hw.os, h.tape.trans hw.tape, h.output.trans hw.output, Nat.le_trans hw.size h.size, fun k hk => (h.keep k (Nat.lt_of_lt_of_le hk hw.size) (by omega) (by omega)).trans (hw.block k hk)⟩
theorem ol37 {wL wr wk : World} {gb gc : Nat} {b : BK} {vc : Value} {ks : List K} {e : Int} (h : OL wL gb gc b vc wr ks e) (hg : wr.drew.grownBy wk (some gc)) {x : Value} (hc : wr.drew.cell? ⟨gb, 37, none⟩ = some x) : wk.cell? ⟨gb, 37, none⟩ = some x := by
  rw [World.cell?_of_block (a := ⟨gb, 37, none⟩) (hg.block gb (Nat.lt_of_lt_of_le h.gb h.size) (fun e => h.ne (Option.some.inj e)))]
  exact hc
theorem olown {wL wr wk : World} {gb gc : Nat} {b : BK} {vc : Value} {ks : List K} {e : Int} (h : OL wL gb gc b vc wr ks e) {v : Value} (ho : OwnK wr wL.heap.size v ks) (hg : wr.drew.grownBy wk (some gc)) (km : K) : OwnK (wk.alloc (.cells (kc km) 45)) wL.heap.size v ks := by
  have h1 : OwnK wr.drew wL.heap.size v ks := ho
  have h2 : OwnK wk wL.heap.size v ks := h1.grown hg (fun g2 hg2 => by cases hg2; exact h1.neOld h.gc)
  exact h2.on ((Below.refl _ _).alloc (Nat.le_refl _) _)
theorem olsize {wL wr wk : World} {gb gc : Nat} {b : BK} {vc : Value} {ks : List K} {e : Int} (h : OL wL gb gc b vc wr ks e) (hg : wr.drew.grownBy wk (some gc)) (km : K) : wL.heap.size ≤ (wk.alloc (.cells (kc km) 45)).heap.size := by
  rw [World.size_alloc]
  have h1 : wr.heap.size ≤ wk.heap.size := hg.size
  have := h.size
  omega
theorem olrow {wL wr wk w7 : World} {gb gc : Nat} {b : BK} {vc : Value} {ks : List K} {e : Int} (h : OL wL gb gc b vc wr ks e) {cs : Array Value} (hr : wr.heap[gb]? = some (.cells cs 26 (0, 0))) (hg : wr.drew.grownBy wk (some gc)) {km : K} (hb : Below wL.heap.size (wk.alloc (.cells (kc km) 45)) w7) :
    w7.heap[gb]? = some (.cells cs 26 (0, 0)) := by
  have h1 : wr.heap.size ≤ wk.heap.size := hg.size
  have h2 := h.size
  have h3 := h.gb
  rw [hb.block _ h3, heap_past _ _ _ (by omega)]
  exact row_by (show wr.drew.heap[gb]? = _ from hr) hg h.ne
set_option maxRecDepth 100000 in
set_option maxHeartbeats 4000000 in
theorem bopen_c (dk blob : List UInt8) (w : World) (hk : KAt w) (h32 : dk.length = 32) (hl : blob.length ≤ 800000) :
    Calls Tryz.prog 22 #[.string ⟨dk.toArray⟩, .string ⟨blob.toArray⟩] w fun en w' => ∃ vk, en = .returned (.tuple #[.agg (bc (opB dk blob) vk), .int .i64 (opE dk blob)]) ∧ RdK w' vk (opK dk blob) ∧ Below w.heap.size w w' := by
  have hz := zero_bk
  have i1 : ((dk.length : Int) != 32) = false := by rw [h32]; rfl
  have HL := Lib.hid hl
  have H32 := Lib.hid h32
  have HKA := Lib.hid hk
  obtain ⟨W0, hW0⟩ : ∃ W0, W0 = w.alloc (.cells (bc zB (.slice none 0 0)) 26) := ⟨_, rfl⟩
  have HW := Lib.hid hW0
  have HB0 : Hid (Below w.heap.size w W0) := Lib.hid (by rw [hW0]; exact (Below.refl _ _).alloc (Nat.le_refl _) _)
  have HK0 : Hid (W0.heap[w.heap.size]? = some (.cells (bc zB nilS) 26 (0, 0))) := Lib.hid (by rw [hW0]; exact heap_last _ _ _ rfl)
  have hcv := conv_sb W0 blob
  have HSB := Lib.hid (sb_below W0 blob)
  have HSR := Lib.hid (sb_rd W0 blob (by unfold maxLen; omega))
  generalize Lib.bytesWorld W0 5 ⟨blob.toArray⟩ = ws at hcv HSB HSR
  clear hk h32 hl hW0
  go_enter Tryz.func22, Tryz.ntmps22
  go_upto_region 1 with fail
  rw [← HW.out]
  go_upto_region 4 with fail
  have HX1 : Hid (RV (ws.alloc (.cells #[.slice (some ⟨W0.heap.size, 0, none⟩) blob.length (grownCap W0 blob.length 0 5), .int .i64 0, .string ⟨#[]⟩] 68)) ws.heap.size 68 (some []) (.slice (some ⟨W0.heap.size, 0, none⟩) blob.length (grownCap W0 blob.length 0 5)) 0) := Lib.hid (by unfold RV; rw [rc_some]; exact heap_last _ _ _ rfl)
  have HA1 := Lib.hid ((Below.refl ws.heap.size ws).alloc (Nat.le_refl _) (.cells #[.slice (some ⟨W0.heap.size, 0, none⟩) blob.length (grownCap W0 blob.length 0 5), .int .i64 0, .string ⟨#[]⟩] 68))
  have HGX : Hid (w.heap.size < ws.heap.size) := Lib.hid (Nat.lt_of_lt_of_le (Array.getElem?_eq_some_iff.1 HK0.out).1 HSB.out.size)
  generalize ws.alloc (.cells #[.slice (some ⟨W0.heap.size, 0, none⟩) blob.length (grownCap W0 blob.length 0 5), .int .i64 0, .string ⟨#[]⟩] 68) = w1 at HX1 HA1 ⊢
  generalize hvb : (Value.slice (some ⟨W0.heap.size, 0, none⟩) blob.length (grownCap W0 blob.length 0 5)) = vb at HX1 HSR
  have HB1 : Hid (Below W0.heap.size W0 w1) := Lib.hid (HSB.out.trans (HA1.out.mono HSB.out.size))
  have HK1 : Hid (w1.heap[w.heap.size]? = some (.cells (bc zB nilS) 26 (0, 0))) := Lib.hid (by rw [HB1.out.block _ (Array.getElem?_eq_some_iff.1 HK0.out).1]; exact HK0.out)
  have HRB := Lib.hid (HSR.out.on HA1.out)
  generalize hgx : ws.heap.size = g at HX1 HGX
  clear hcv hgx hvb
  have HG1 := Lib.hid HX1.out.lt
  have C4 := Lib.hid (peek_c g [] blob vb w1 HX1.out HRB.out (by have := HL.out; omega))
  have HMOL : Hid ((blB blob).mo.length ≤ 800000) := Lib.hid (Nat.le_trans (mo_len _ _) (Nat.le_trans (rdVS_len blob 0) HL.out))
  have HRR := Lib.hid (rdR_len decS blob 0)
  have HHD := Lib.hid (rdVS_len blob 0)
  have EOE : Hid (opE dk blob = if blE blob = 0 then (if blO dk blob = 0 then (if ctE (blT dk blob) = 0 ∧ validB (blB blob) (ctK (blT dk blob)) = false then 6 else ctE (blT dk blob)) else blO dk blob) else blE blob) := Lib.hid (by unfold opE; rw [if_pos H32.out])
  have EOB : Hid (opB dk blob = if opE dk blob = 0 then blB blob else zB) := Lib.hid rfl
  have EOK : Hid (opK dk blob = if opE dk blob = 0 then ctK (blT dk blob) else []) := Lib.hid rfl
  have EBT : Hid (blT dk blob = openX (deriveP dk bkL) (blH blob) (rdR decS blob 0)) := Lib.hid rfl
  have EBO : Hid (blO dk blob = openE (deriveP dk bkL) (blH blob) (rdR decS blob 0)) := Lib.hid rfl
  have hbB : hdB (rdV [] decS blob 0) (rdX decS blob 0) = blB blob := rfl
  have hbE : hdX (rdV [] decS blob 0) (rdX decS blob 0) = blE blob := rfl
  have hbH : rdV [] decS blob 0 = blH blob := rfl
  rw [hbB, hbE, hbH] at C4
  rw [hbH] at HHD
  clear hbB hbE hbH
  generalize blB blob = b at C4 HMOL EOE EOB
  generalize blE blob = ee at C4 EOE
  generalize blH blob = hdr at C4 EBT EBO HHD
  generalize rdR decS blob 0 = rr at C4 EBT EBO HRR
  go_upto_if 29 with (first
    | (go_at_call 47; refine C4.out.mono ?_; rintro en w2 ⟨v2, rfl, hr2, hp2, hg2⟩; have HX2 := Lib.hid hr2; have HP2 := Lib.hid hp2; have HG12 := Lib.hid hg2; clear hr2 hp2 hg2)
    | (refine st_new (bc b nilS) 26 rfl (.tmp 7) (.tmp 23) rfl _ rfl rfl rfl (by rw [bc_size]; exact info_b) (by rw [bc_size, bc_size]) (bcone _ _ _ _) ?_; have c29 : (w2.alloc (.cells (bc b nilS) 26)).cell? ⟨g, 1, none⟩ = some (.int .i64 ee) := (by rw [cell_of_row _ _ _ _ _ _ (HX2.out.on ((Below.refl _ _).alloc (Nat.le_refl _) _))]; exact rc_1 _ ee (some hdr))))
  have HA2 := Lib.hid ((Below.refl w2.heap.size w2).alloc (Nat.le_refl _) (.cells (bc b nilS) 26))
  have HX3 := Lib.hid (HX2.out.on HA2.out)
  have HBK3 : Hid ((w2.alloc (.cells (bc b nilS) 26)).heap[w2.heap.size]? = some (.cells (bc b nilS) 26 (0, 0))) := Lib.hid (heap_last _ _ _ rfl)
  have HK2 := Lib.hid (row_by HK1.out HG12.out (by have := HGX.out; omega))
  have HK3 : Hid ((w2.alloc (.cells (bc b nilS) 26)).heap[w.heap.size]? = some (.cells (bc zB nilS) 26 (0, 0))) := Lib.hid (by rw [HA2.out.block _ (Array.getElem?_eq_some_iff.1 HK2.out).1]; exact HK2.out)
  have HGB : Hid (g < w2.heap.size) := Lib.hid HX2.out.lt
  have HBW : Hid (Below w.heap.size w (w2.alloc (.cells (bc b nilS) 26))) := Lib.hid (by
    have q1 := HB0.out.trans (HB1.out.mono HB0.out.size)
    have q2 := q1.trans (below_grown HG12.out (Nat.le_of_lt HGX.out) HG1.out)
    exact q2.trans (HA2.out.mono q2.size))
  have HRR3 : Hid (RdE eB (w2.alloc (.cells (bc b nilS) 26)) v2 rr) := Lib.hid ((HP2.out w2 (HX1.out.noB HRB.out HG12.out HRB.out)).on HA2.out)
  generalize w2.alloc (.cells (bc b nilS) 26) = w3 at HX3 HBK3 HK3 HBW HRR3 c29 ⊢
  generalize hgb : w2.heap.size = gb at HBK3 HGB
  clear hgb c29 HA2 HK2
  have HGW : Hid (w.heap.size < g) := HGX
  by_cases he : ee = 0
  · subst he
    have EO4 : Hid (opE dk blob = if blO dk blob = 0 then (if ctE (blT dk blob) = 0 ∧ validB b (ctK (blT dk blob)) = false then 6 else ctE (blT dk blob)) else blO dk blob) := Lib.hid (by rw [EOE.out, if_pos rfl])
    clear EOE
    have hdl : (deriveP dk bkL).length = 32 := deriveP_len dk bkL
    have HDL := Lib.hid hdl
    obtain ⟨va, vc2, hv2, _, _, _⟩ := HRR3.out
    obtain ⟨vn, hvn⟩ : ∃ n, n = rr.length := ⟨_, rfl⟩
    rw [← hvn] at hv2
    subst hv2
    have HKA3 := Lib.hid (HKA.out.on HBW.out)
    generalize hdp : deriveP dk bkL = dp at EBT EBO HDL
    have HDP := Lib.hid hdp
    have HOL := Lib.hid (openX_len dp hdr rr)
    generalize hot : openX dp hdr rr = t at EBT HOL
    generalize hoe : openE dp hdr rr = oe at EBO
    have HOT := Lib.hid hot
    have HOE := Lib.hid hoe
    generalize blT dk blob = bt at EBT EO4 EOK
    generalize blO dk blob = bo at EBO EO4
    have HCX : Hid ((convert 50 9 (.slice va vn vc2)).run Tryz.prog w3 = .ok (.string ⟨rr.toArray⟩) w3) := Lib.hid (conv_e HRR3.out)
    clear hdl hdp hot hoe hvn
    go_upto_region 7 with fail
    try dsimp only [Act.put]
    refine region_rel 17 [[], [0], [], [2], [3], [4], [], [6], [7], [8], [9], [10], [1, 5, 11], [12], [13], [13], [14]]
      (SP.of [.eq (.string ⟨dk.toArray⟩), .eq (.string ⟨dp.toArray⟩), .eq (.pointer (some ⟨g, 0, none⟩)), .eq (.pointer (some ⟨g, 0, none⟩)), .eq (.pointer (some ⟨g, 2, none⟩)), .eq (.string ⟨hdr.toArray⟩), .eq (.pointer (some ⟨g, 0, none⟩)), .eq (.pointer (some ⟨g, 0, none⟩)), .eq (.pointer (some ⟨g, 0, none⟩)), .eq (.pointer (some ⟨g, 0, none⟩)), .eq (.slice va vn vc2), .eq (.string ⟨rr.toArray⟩),
        .eq (.tuple #[.string ⟨t.toArray⟩, .int .i64 oe]), .eq (.tuple #[.string ⟨t.toArray⟩, .int .i64 oe]), .eq (.string ⟨t.toArray⟩), .eq (.int .i64 oe), .eq (.string ⟨t.toArray⟩)]) (fun _ => undef) ?q1 ?q2 ?q3 ?q4 ?q5 ?q6
    case q1 => kernel_rfl
    case q2 => kernel_rfl
    case q3 => kernel_rfl
    case q4 =>
      simp only [List.take_succ_cons, List.take_zero]
      repeat (first | exact trivial | refine ⟨fun vals v => by kernel_rfl, ?_⟩)
    case q5 =>
      simp only [List.take_succ_cons, List.take_zero]
      refine ⟨?_, ?_, ?_, ?_, ?_, ?_, ?_, ?_, ?_, ?_, ?_, ?_, ?_, ?_, ?_, ?_, ?_, trivial⟩
      all_goals (intro wq hbq vals; simp only [Nat.reduceAdd, Nat.zero_add, List.getD_cons_succ, List.getD_cons_zero]; repeat (first | refine given_nil ?_ | refine given_eq rfl ?_); have HBQ := Lib.hid hbq; have HXQ := Lib.hid (HX3.out.on hbq); clear hbq; intro Q hQ; simp only [putAll, upd, Act.put, List.setIfInBounds_toArray, List.set_cons_zero, List.set_cons_succ, Nat.reduceAdd, Nat.zero_add, Nat.reduceEqDiff, if_true, if_false, reduceIte])
      case refine_2 =>
        go_wp2_with (go_at_call 26; refine (derive_c dk bkL _ (HKA3.out.on HBQ.out) (by rw [H32.out]; decide) (by decide)).mono ?_; rintro e x1 ⟨rfl, hx1⟩; rw [HDP.out])
        exact relEnd_fin hQ _ (by kernel_rfl) hx1 rfl
      case refine_6 =>
        have c2 : wq.cell? ⟨g, 2, none⟩ = some (.string ⟨hdr.toArray⟩) := by rw [cell_of_row _ _ _ _ _ _ HXQ.out]; exact rc_2 _ 0 hdr
        go_wp2
        exact relEnd_fin hQ _ (by kernel_rfl) (Below.refl _ _) rfl
      case refine_11 =>
        have c0 : wq.cell? ⟨g, 0, none⟩ = some (.slice va vn vc2) := by rw [cell_of_row _ _ _ _ _ _ HXQ.out]; exact rc_0 _ 0 (some hdr)
        go_wp2
        exact relEnd_fin hQ _ (by kernel_rfl) (Below.refl _ _) rfl
      case refine_12 =>
        have hcvq : (convert 50 9 (.slice va vn vc2)).run Tryz.prog wq = .ok (.string ⟨rr.toArray⟩) wq := conv_e (HRR3.out.on HBQ.out)
        go_wp2
        exact relEnd_fin hQ _ (by kernel_rfl) (Below.refl _ _) rfl
      case refine_13 =>
        go_wp2_with (go_at_call 51; refine (open_t dp hdr rr _ (HKA3.out.on HBQ.out)).mono ?_; rintro e x1 ⟨rfl, hx1⟩; rw [HOT.out, HOE.out])
        exact relEnd_fin hQ _ (by kernel_rfl) hx1 rfl
      all_goals go_wp2
      all_goals exact relEnd_fin hQ _ (by kernel_rfl) (Below.refl _ _) rfl
    case q6 =>
      intro w4 hb4 vals
      rw [show List.range 17 = [0, 1, 2, 3, 4, 5, 6, 7, 8, 9, 10, 11, 12, 13, 14, 15, 16] from by decide]
      repeat (first | refine given_nil ?_ | refine given_eq rfl ?_)
      simp only [List.take_succ_cons, List.take_zero, List.drop_succ_cons, List.drop_zero]
      simp only [putAll, upd, Act.put, List.setIfInBounds_toArray, List.set_cons_zero, List.set_cons_succ, Nat.reduceAdd, Nat.zero_add, Nat.reduceEqDiff, if_true, if_false, reduceIte]
      have HX4 := Lib.hid (HX3.out.on hb4)
      have HBK4 : Hid (w4.heap[gb]? = some (.cells (bc b nilS) 26 (0, 0))) := Lib.hid (by rw [hb4.block _ (Array.getElem?_eq_some_iff.1 HBK3.out).1]; exact HBK3.out)
      have HK4 : Hid (w4.heap[w.heap.size]? = some (.cells (bc zB nilS) 26 (0, 0))) := Lib.hid (by rw [hb4.block _ (Array.getElem?_eq_some_iff.1 HK3.out).1]; exact HK3.out)
      have HBW4 := Lib.hid (HBW.out.trans (hb4.mono HBW.out.size))
      clear hb4 HCX
      by_cases ho0 : oe = 0
      · subst ho0
        have EO5 : Hid (opE dk blob = if ctE t = 0 ∧ validB b (ctK t) = false then 6 else ctE t) := Lib.hid (by rw [EO4.out, EBO.out, if_pos rfl, EBT.out])
        have EOK2 : Hid (opK dk blob = if opE dk blob = 0 then ctK t else []) := Lib.hid (by rw [EOK.out, EBT.out])
        clear EO4 EOK EBT EBO HOT HOE HDP
        have HTL : Hid (t.length ≤ 800000) := Lib.hid (Nat.le_trans HOL.out (Nat.le_trans HRR.out HL.out))
        have hcv4 := conv_sb w4 t
        have HSB4 := Lib.hid (sb_below w4 t)
        have HSR4 := Lib.hid (sb_rd w4 t (by have := HTL.out; unfold maxLen; omega))
        generalize Lib.bytesWorld w4 5 ⟨t.toArray⟩ = ws4 at hcv4 HSB4 HSR4
        go_upto_region 11 with fail
        have HX5 : Hid (RV (ws4.alloc (.cells #[.slice (some ⟨w4.heap.size, 0, none⟩) t.length (grownCap w4 t.length 0 5), .int .i64 0] 66)) ws4.heap.size 66 none (.slice (some ⟨w4.heap.size, 0, none⟩) t.length (grownCap w4 t.length 0 5)) 0) := Lib.hid (by unfold RV; rw [rc_none]; exact heap_last _ _ _ rfl)
        have HA5 := Lib.hid ((Below.refl ws4.heap.size ws4).alloc (Nat.le_refl _) (.cells #[.slice (some ⟨w4.heap.size, 0, none⟩) t.length (grownCap w4 t.length 0 5), .int .i64 0] 66))
        have HGC : Hid (gb < ws4.heap.size) := Lib.hid (Nat.lt_of_lt_of_le (Array.getElem?_eq_some_iff.1 HBK4.out).1 HSB4.out.size)
        generalize ws4.alloc (.cells #[.slice (some ⟨w4.heap.size, 0, none⟩) t.length (grownCap w4 t.length 0 5), .int .i64 0] 66) = w5 at HX5 HA5 ⊢
        generalize (Value.slice (some ⟨w4.heap.size, 0, none⟩) t.length (grownCap w4 t.length 0 5)) = vt at HX5 HSR4
        have HB45 : Hid (Below w4.heap.size w4 w5) := Lib.hid (HSB4.out.trans (HA5.out.mono HSB4.out.size))
        have HBK5 : Hid (w5.heap[gb]? = some (.cells (bc b nilS) 26 (0, 0))) := Lib.hid (by rw [HB45.out.block _ (Array.getElem?_eq_some_iff.1 HBK4.out).1]; exact HBK4.out)
        have HK5 : Hid (w5.heap[w.heap.size]? = some (.cells (bc zB nilS) 26 (0, 0))) := Lib.hid (by rw [HB45.out.block _ (Array.getElem?_eq_some_iff.1 HK4.out).1]; exact HK4.out)
        have HBW5 := Lib.hid (HBW4.out.trans (HB45.out.mono HBW4.out.size))
        have HRT := Lib.hid (HSR4.out.on HA5.out)
        generalize hgc : ws4.heap.size = gc at HX5 HGC
        clear hcv4 hgc
        have HGC5 := Lib.hid HX5.out.lt
        have C11 := Lib.hid (wholeL_c gc 66 none vt t 0 w5 HX5.out HRT.out (by have := HTL.out; omega))
        have HPS := Lib.hid (fun x h => Nat.le_trans (rdVL_len t 0 x h) HTL.out)
        have EK : Hid (ctK t = (foldK (rdV [] decSs t 0) (whX decSs t 0)).1) := Lib.hid rfl
        have EE : Hid (ctE t = (foldK (rdV [] decSs t 0) (whX decSs t 0)).2) := Lib.hid rfl
        have HPN : Hid ((rdV [] decSs t 0).length ≤ 800000) := Lib.hid (Nat.le_trans (rdVL_num t 0) HTL.out)
        generalize rdV [] decSs t 0 = ps at C11 HPS EK EE HPN
        generalize rdR decSs t 0 = rr5 at C11
        generalize whX decSs t 0 = pe at C11 EK EE
        have hpni : (ps.length : Int) ≤ 800000 := by have := HPN.out; omega
        go_wp2_with (go_at_call 52; refine C11.out.mono ?_; rintro en w6 ⟨x6, v6, rfl, ho6, hr6, hp6, hg6⟩; have HO6 := Lib.hid ho6; have HX6 := Lib.hid hr6; have HG56 := Lib.hid hg6; obtain ⟨pa, pc6, rfl, _, _, _⟩ := ho6.rd; clear hr6 hp6 hg6 ho6)
        have HBK6 := Lib.hid (row_by HBK5.out HG56.out (by have := HGC.out; omega))
        have HK6 := Lib.hid (row_by HK5.out HG56.out (by have := HGB.out; have := HGC.out; have := HGW.out; omega))
        have HBW6 := Lib.hid (HBW5.out.trans (below_grown HG56.out (by have := HGB.out; have := HGC.out; have := HGW.out; omega) HGC5.out))
        go_loopw [63] (fun i wr => ∃ j : Nat, j ≤ ps.length ∧ i = .int .i64 j ∧ Hid (OL w6 gb gc b v6 wr (foldK (ps.take j) pe).1 (foldK (ps.take j) pe).2)) (fun i _ => ps.length - (intOf i).toNat)
        case atStart => exact ⟨0, Nat.zero_le _, rfl, Lib.hid ⟨⟨nilS, HBK6.out, OwnK.nil _ _⟩, HX6.out, fun _ _ _ _ => rfl, rfl, rfl, rfl, Nat.le_refl _, by have := HGC.out; omega, (Array.getElem?_eq_some_iff.1 HBK6.out).1, HX6.out.lt⟩⟩
        case round =>
          obtain ⟨j, hj, rfl, hol⟩ := hrel
          by_cases hlt : j < ps.length
          · have j1 : (j : Int) < ps.length := by omega
            obtain ⟨bp, op, rfl, hbp, hrow⟩ := RdS_cells HO6.out.rd (by omega)
            have hpo : w5.heap.size ≤ bp := (HO6.out.lt bp rfl).1
            have cj : wr.cell? ⟨bp, op + j, none⟩ = some (.string ⟨ps[j].toArray⟩) := by
              rw [World.cell?_of_block (a := ⟨bp, op + j, none⟩) (hol.out.keep bp hbp (by have := HGC.out; have := HGC5.out; omega) (by have := HGC5.out; omega))]
              exact hrow j hlt
            have HT := Lib.hid (foldK_take ps j hlt pe)
            have HSL : Hid (ps[j].length ≤ 900000) := Lib.hid (by have := HPS.out ps[j] (List.getElem_mem hlt); omega)
            have HKL : Hid ((foldK (ps.take j) pe).1.length ≤ 800000) := Lib.hid (by rw [foldK_len, List.length_take]; have := HPN.out; omega)
            have HJ := Lib.hid hlt
            have HOLD := hol
            generalize ps[j] = s at cj HT HSL
            generalize (foldK (ps.take j) pe).1 = ks at HT HKL hol HOLD
            generalize (foldK (ps.take j) pe).2 = ek at HT hol HOLD
            obtain ⟨vk, hbk, hown⟩ := hol.out.bk
            have HOWN := Lib.hid hown
            have HBKR := Lib.hid hbk
            obtain ⟨ka, kcp, hvk, _, _, _⟩ := hown.rd
            have hvkl : ∃ kl, kl = ks.length := ⟨_, rfl⟩
            obtain ⟨kl, hkl⟩ := hvkl
            rw [← hkl] at hvk
            subst hvk
            have HRVR : Hid (RV wr gc 66 none v6 ek) := Lib.hid hol.out.rv
            have HCK := Lib.hid (fun (wd : World) (h : RV wd gc 66 none v6 ek) => key_c gc 66 none v6 ek s wd h HSL.out)
            generalize keyK s ek = km at HT HCK
            generalize keyE s ek = ek2 at HT HCK
            have c37 : wr.drew.cell? ⟨gb, 37, none⟩ = some (.slice ka kl kcp) := by rw [cell_of_row _ _ _ _ _ _ (show wr.drew.heap[gb]? = _ from HBKR.out)]; exact bc_37 _ _
            clear hrow hpo hbp hlt hj hol hown hbk hkl
            go_upto_region 14 with fail
            try dsimp only [Act.put]
            refine region_relG (Rl := fun x y => x.grownBy y (some gc)) (E0 := fun x y => Below x.heap.size x y) (J := fun d x => wr.grownBy x (some gc) ∧ RV x gc 66 none v6 (if d = true then ek2 else ek)) 4
              ⟨fun a b h => grownB gc h, fun d a b h hb => ⟨grown_then h.1 hb, h.2.on hb⟩⟩ 6 (by decide) [[], [0], [], [], [2, 3], [4]]
              (SPG.of [.eq (.pointer (some ⟨gb, 37, none⟩)), .eq (.slice ka kl kcp), .eq (.pointer (some ⟨gc, 0, none⟩)), .eq (.string ⟨s.toArray⟩), .eq (kv km), SPG.key gc km]) (fun i => [u67, u68, u69, u70, u71, u72].getD i undef) ?p1 ?p2 ?p3 ?p4 ?p5 ?p6 ?p7
            case p1 => kernel_rfl
            case p2 => kernel_rfl
            case p3 => kernel_rfl
            case p4 =>
              simp only [List.take_succ_cons, List.take_zero]
              repeat (first | exact trivial | refine ⟨fun vals v => by kernel_rfl, ?_⟩)
            case p5 => exact ⟨grown_then (grown_refl _ _) ((Below.refl _ _).drew), by rw [if_neg (by decide)]; exact HRVR.out⟩
            case p6 =>
              simp only [List.take_succ_cons, List.take_zero]
              refine ⟨?_, ?_, ?_, ?_, ?_, ?_, trivial⟩
              all_goals (intro d wq hd hJq vals; simp only [Nat.reduceAdd, Nat.zero_add, List.getD_cons_succ, List.getD_cons_zero]; repeat (first | refine givenG_nil ?_ | refine givenG_eq rfl ?_); intro Q hQ; simp only [putAll, upd, Act.put, List.setIfInBounds_toArray, List.set_cons_zero, List.set_cons_succ, Nat.reduceAdd, Nat.zero_add, Nat.reduceEqDiff, if_true, if_false, reduceIte])
              case refine_2 =>
                have c37q : wq.cell? ⟨gb, 37, none⟩ = some (.slice ka kl kcp) := by
                  rw [World.cell?_of_block (a := ⟨gb, 37, none⟩) (hJq.1.block gb (Array.getElem?_eq_some_iff.1 HBKR.out).1 (fun e => HOLD.out.ne (Option.some.inj e)))]
                  exact c37
                clear hJq hd
                go_wp2
                exact relEnd_finG hQ _ (by kernel_rfl) (effG_ne (by decide) (Below.refl _ _)) rfl
              case refine_5 =>
                rw [hd rfl] at hJq
                have HJ1 := Lib.hid hJq.1
                have HJ2 : Hid (RV wq gc 66 none v6 ek) := Lib.hid (by have := hJq.2; rwa [if_neg (by decide)] at this)
                clear hJq hd
                go_wp2_with (go_at_call 54; refine (HCK.out wq HJ2.out).mono ?_; rintro en wk ⟨rfl, hrv, hgr⟩)
                exact relEnd_finG hQ _ (by kernel_rfl) (effG_eq hgr ⟨grown_trans HJ1.out hgr, by rw [if_pos rfl]; exact hrv⟩) rfl
              case refine_6 =>
                have HJ1 := Lib.hid hJq.1
                have HGCQ : Hid (gc < wq.heap.size) := Lib.hid hJq.2.lt
                clear hJq hd
                unfold kv kc
                go_wp2
                exact relEnd_finG hQ _ (by kernel_rfl) (effG_ne (by decide) ((Below.refl _ _).alloc (Nat.le_refl _) _)) ⟨wq.heap.size, rfl, HGCQ.out, heap_last _ _ _ rfl⟩
              all_goals clear hJq hd
              all_goals go_wp2
              all_goals exact relEnd_finG hQ _ (by kernel_rfl) (effG_ne (by decide) (Below.refl _ _)) rfl
            case p7 =>
              intro wq hJq vals
              rw [show List.range 6 = [0, 1, 2, 3, 4, 5] from by decide]
              refine givenG_eq rfl (givenG_eq rfl (givenG_eq rfl (givenG_eq rfl (givenG_eq rfl (givenG_pred rfl ?_)))))
              rintro _ ⟨g1, rfl, hg1, hg1r⟩
              refine givenG_nil ?_
              simp only [List.take_succ_cons, List.take_zero, List.drop_succ_cons, List.drop_zero]
              simp only [putAll, upd, Act.put, List.setIfInBounds_toArray, List.set_cons_zero, List.set_cons_succ, Nat.reduceAdd, Nat.zero_add, Nat.reduceEqDiff, if_true, if_false, reduceIte]
              have HGRQ := Lib.hid hJq.1
              have HRVQ : Hid (RV wq gc 66 none v6 ek2) := Lib.hid (by have := hJq.2; rwa [if_pos rfl] at this)
              have HNW : Hid (RdK wq (.slice (some ⟨g1, 0, none⟩) 1 1) [km]) := Lib.hid (row_k1 hg1r)
              have HOWQ : Hid (OwnK wq w6.heap.size (.slice ka kl kcp) ks) := Lib.hid (HOWN.out.grown HGRQ.out (fun g2 hg2 => by cases hg2; exact HOWN.out.neOld HOLD.out.gc))
              have HSZQ : Hid (w6.heap.size ≤ wq.heap.size) := Lib.hid (Nat.le_trans HOLD.out.size HGRQ.out.size)
              have HBKQ := Lib.hid (row_by HBKR.out HGRQ.out HOLD.out.ne)
              clear hJq hg1 hg1r c37
              go_upto_region 15 with (at_builtin; refine app_k rfl (.tmp 68) (.tmp 72) rfl w6.heap.size _ ks rfl HOWQ.out _ [km] rfl HNW.out (by have := HKL.out; simp; omega) HSZQ.out ?_; intro v7 w7 ho7 hb7; have HO7 := Lib.hid ho7; have HB7 := Lib.hid hb7; have hR7 : w7.heap[gb]? = some (.cells (bc b (.slice ka kl kcp)) 26 (0, 0)) := (by rw [hb7.block _ HOLD.out.gb]; exact HBKQ.out); have HR7 := Lib.hid hR7; have c37b : w7.cell? ⟨gb, 37, none⟩ = some (.slice ka kl kcp) := (by rw [cell_of_row _ _ _ _ _ _ hR7]; exact bc_37 _ _); have f37b := frozen_of_row _ _ 37 _ _ hR7; obtain ⟨k7a, k7c, hv7, _, _, _⟩ := ho7.rd; obtain ⟨k7l, hk7⟩ : ∃ n, n = (ks ++ [km]).length := ⟨_, rfl⟩; rw [← hk7] at hv7; subst hv7; clear ho7 hb7 hR7 hk7)
              have HW8 : Hid (w7.setCell ⟨gb, 37, none⟩ (.slice k7a k7l k7c) = w7.setRow gb (bc b (.slice k7a k7l k7c))) := Lib.hid (by rw [setCell_rowC _ _ _ _ _ _ _ HR7.out, bcset_37])
              rw [HW8.out]
              have HOL8 : Hid (OL w6 gb gc b v6 (w7.setRow gb (bc b (.slice k7a k7l k7c))) (ks ++ [km]) ek2) := Lib.hid (ol_step HOLD.out HGRQ.out HRVQ.out HB7.out HR7.out HO7.out)
              clear c37b f37b
              generalize w7.setRow gb (bc b (.slice k7a k7l k7c)) = w8 at HOL8 ⊢
              go_wp2
              go_roundw
              case rel => exact ⟨j + 1, HJ.out, by go_num, Lib.hid (by rw [HT.out]; exact HOL8.out)⟩
              case measure => have := HJ.out; simp [intOf]; omega
          · have hjl : j = ps.length := by omega
            have j1 : (ps.length : Int) ≤ j := by omega
            have HFK : Hid (foldK (ps.take j) pe = (ctK t, ctE t)) := Lib.hid (by rw [hjl, List.take_length, EK.out, EE.out])
            have HNK : Hid (numK (ctK t)) := Lib.hid (by rw [EK.out]; exact numK_of (foldK_num ps pe))
            have HOLF : Hid (OL w6 gb gc b v6 wr (ctK t) (ctE t)) := Lib.hid (by have := hol.out; rwa [HFK.out] at this)
            generalize ctK t = ks at HOLF HNK EO5 EOK2 EK HFK
            generalize ctE t = ek at HOLF EO5 EE HFK
            obtain ⟨vk, hbk, hown⟩ := HOLF.out.bk
            have HOWN := Lib.hid hown
            have HBKR := Lib.hid hbk
            obtain ⟨ka, kcp, hvk, _, _, _⟩ := hown.rd
            obtain ⟨kl, hkl⟩ : ∃ kl, kl = ks.length := ⟨_, rfl⟩
            rw [← hkl] at hvk
            subst hvk
            have HBWR : Hid (Below w.heap.size w wr) := Lib.hid (ol_below HOLF.out HBW6.out (by have := HGB.out; have := HGW.out; omega) (by have := HGC.out; have := HGB.out; have := HGW.out; omega))
            have HKR : Hid (wr.heap[w.heap.size]? = some (.cells (bc zB nilS) 26 (0, 0))) := Lib.hid (by rw [HOLF.out.keep _ (Array.getElem?_eq_some_iff.1 HK6.out).1 (by have := HGB.out; have := HGW.out; omega) (by have := HGC.out; have := HGB.out; have := HGW.out; omega)]; exact HK6.out)
            have C16 := Lib.hid (validB_c b (.slice ka kl kcp) ks wr hown.rd HNK.out.wf (by have := HMOL.out; unfold maxLen; omega))
            generalize hva : validB b ks = va at C16
            have EVA := Lib.hid hva
            generalize he6 : (if ek = 0 ∧ va = false then 6 else ek) = e6
            have E6 := Lib.hid he6
            have EO6 : Hid (opE dk blob = e6) := Lib.hid (by rw [EO5.out, hva]; exact he6)
            clear hva he6 hbk hown hkl hjl hlt hj hol
            go_upto_if 80 with (first
              | (refine ld_bk b (.slice ka kl kcp) rfl (.tmp 7) rfl gb rfl _ HBKR.out ?_)
              | (go_at_call 13; refine C16.out.mono ?_; rintro en wa ⟨rfl, hba⟩; have HBA := Lib.hid hba; have HRVA := Lib.hid (HOLF.out.rv.on hba); clear hba)
              | (go_at_call 55; refine (check_x gc _ none _ ek va 6 _ HRVA.out).mono ?_; rintro en wb ⟨rfl, hwb⟩; have HGB2 := Lib.hid (check_gr hwb); have HRVB := Lib.hid (check_rv HRVA.out hwb); rw [E6.out] at HRVB; clear hwb; rw [E6.out]))
            have HBKA : Hid (wa.heap[gb]? = some (.cells (bc b (.slice ka kl kcp)) 26 (0, 0))) := Lib.hid (by rw [HBA.out.block _ (Array.getElem?_eq_some_iff.1 HBKR.out).1]; exact HBKR.out)
            have HBKB := Lib.hid (row_by HBKA.out HGB2.out HOLF.out.ne)
            have HKA2 : Hid (wa.heap[w.heap.size]? = some (.cells (bc zB nilS) 26 (0, 0))) := Lib.hid (by rw [HBA.out.block _ (Array.getElem?_eq_some_iff.1 HKR.out).1]; exact HKR.out)
            have HKB := Lib.hid (row_by HKA2.out HGB2.out (by have := HGC.out; have := HGB.out; have := HGW.out; omega))
            have HBWA := Lib.hid (HBWR.out.trans (HBA.out.mono HBWR.out.size))
            have HBWB := Lib.hid (HBWA.out.trans (below_grown HGB2.out (by have := HGC.out; have := HGB.out; have := HGW.out; omega) HRVA.out.lt))
            have HOWA := Lib.hid (HOWN.out.on HBA.out)
            have HOWB : Hid (OwnK wb w6.heap.size (.slice ka kl kcp) ks) := Lib.hid (HOWA.out.grown HGB2.out (fun g2 hg2 => by cases hg2; exact HOWA.out.neOld HOLF.out.gc))
            have HGWC : Hid (w.heap.size < gc) := Lib.hid (by have := HGC.out; have := HGB.out; have := HGW.out; omega)
            generalize hdc : decide (e6 = 0) = dc
            cases dc with
            | true =>
              have h60 : e6 = 0 := of_decide_eq_true hdc
              have EO2 : Hid (opB dk blob = b) := Lib.hid (by rw [EOB.out, EO6.out, if_pos h60])
              have EO3 : Hid (opK dk blob = ks) := Lib.hid (by rw [EOK2.out, EO6.out, if_pos h60])
              have HBF : Hid (w.heap.size < w6.heap.size) := Lib.hid (Array.getElem?_eq_some_iff.1 HK6.out).1
              have H60 := Lib.hid h60
              clear h60 hdc
              have k3 := run_stcells wb w.heap.size b zB (.slice none 0 0) ka kl kcp HKB.out
              go_wp2_with (refine ld_bk b (.slice ka kl kcp) rfl (.tmp 7) rfl gb rfl _ HBKB.out ?_)
              refine bodyPost_ret (results_row2 rfl _ _ w.heap.size _ rfl (run_bkrow _ _ b (.slice ka kl kcp) _ (setRow_heap _ _ _ _ _ _ HKB.out))) rfl ?_
              refine ⟨.slice ka kl kcp, by rw [EO6.out, EO2.out, H60.out]; rfl, ?_, HBWB.out.trans (below_row (Nat.le_refl _))⟩
              rw [EO3.out]
              exact (HOWB.out.grown (grown_setRow _ _ _) (fun g2 hg2 => by cases hg2; exact HOWB.out.neOld HBF.out)).rd
            | false =>
              have h60 : ¬ e6 = 0 := of_decide_eq_false hdc
              have EO2 : Hid (opB dk blob = zB) := Lib.hid (by rw [EOB.out, EO6.out, if_neg h60])
              have EO3 : Hid (opK dk blob = []) := Lib.hid (by rw [EOK2.out, EO6.out, if_neg h60])
              have HGW2 := HGWC
              clear h60 hdc
              go_wp2
              have k1 : wb.drew.cell? ⟨gc, 1, none⟩ = some (.int .i64 e6) := by rw [cell_of_row _ _ _ _ _ _ (show wb.drew.heap[gc]? = _ from HRVB.out)]; exact rc_1 _ e6 _
              have k2 : (wb.drew.setRow w.heap.size (bc zB (.slice none 0 0))).cell? ⟨gc, 1, none⟩ = some (.int .i64 e6) := by rw [cell_of_row _ _ _ _ _ _ (show (wb.drew.setRow w.heap.size (bc zB (.slice none 0 0))).heap[gc]? = _ from (setRow_else _ _ _ _ (by have := HGWC.out; omega)).trans HRVB.out)]; exact rc_1 _ e6 _
              have k3 := run_stcells wb.drew w.heap.size zB zB (.slice none 0 0) none 0 0 HKB.out
              go_region
              all_goals go_wp2
              all_goals (refine bodyPost_ret (results_row2 rfl _ _ w.heap.size _ rfl (run_bkrow _ _ zB nilS _ (setRow_heap _ _ _ _ _ _ HKB.out))) rfl ?_)
              all_goals (refine ⟨nilS, by rw [EO6.out, EO2.out]; rfl, by rw [EO3.out]; exact rdK_nil _, HBWB.out.drew.trans (below_row (Nat.le_refl _))⟩)
      · have i3 : (oe != 0) = true := by simpa using ho0
        have EO1 : Hid (opE dk blob = oe) := Lib.hid (by rw [EO4.out, EBO.out, if_neg ho0])
        have EO2 : Hid (opB dk blob = zB) := Lib.hid (by rw [EOB.out, EO1.out, if_neg ho0])
        have EO3 : Hid (opK dk blob = []) := Lib.hid (by rw [EOK.out, EO1.out, if_neg ho0])
        clear ho0
        have k3 := run_stcells w4 w.heap.size zB zB (.slice none 0 0) none 0 0 HK4.out
        go_wp2
        refine bodyPost_ret (results_row2 rfl _ _ w.heap.size _ rfl (run_bkrow _ _ zB nilS _ (setRow_heap _ _ _ _ _ _ HK4.out))) rfl ?_
        refine ⟨nilS, by rw [EO1.out, EO2.out]; rfl, by rw [EO3.out]; exact rdK_nil _, HBW4.out.trans (below_row (Nat.le_refl _))⟩
  · have i2 : (ee != 0) = true := by simpa using he
    have EO1 : Hid (opE dk blob = ee) := Lib.hid (by rw [EOE.out, if_neg he])
    have EO2 : Hid (opB dk blob = zB) := Lib.hid (by rw [EOB.out, EO1.out, if_neg he])
    have EO3 : Hid (opK dk blob = []) := Lib.hid (by rw [EOK.out, EO1.out, if_neg he])
    clear he
    go_wp2

    have k1 : w3.drew.cell? ⟨g, 1, none⟩ = some (.int .i64 ee) := by rw [cell_of_row _ _ _ _ _ _ (show w3.drew.heap[g]? = _ from HX3.out)]; exact rc_1 _ ee _
    have k2 : (w3.drew.setRow w.heap.size (bc zB (.slice none 0 0))).cell? ⟨g, 1, none⟩ = some (.int .i64 ee) := by rw [cell_of_row _ _ _ _ _ _ (show (w3.drew.setRow w.heap.size (bc zB (.slice none 0 0))).heap[g]? = _ from (setRow_else _ _ _ _ (by have := HGW.out; omega)).trans HX3.out)]; exact rc_1 _ ee _
    have k3 := run_stcells w3.drew w.heap.size zB zB (.slice none 0 0) none 0 0 HK3.out
    go_region
    all_goals go_wp2
    all_goals (refine bodyPost_ret (results_row2 rfl _ _ w.heap.size _ rfl (run_bkrow _ _ zB nilS _ (setRow_heap _ _ _ _ _ _ HK3.out))) rfl ?_)
    all_goals (refine ⟨nilS, by rw [EO1.out, EO2.out]; rfl, by rw [EO3.out]; exact rdK_nil _, HBW.out.drew.trans (below_row (Nat.le_refl _))⟩)
end Go.Proofs.YtbpjdfnnlmblaaaGreatDoor
/- What is made is opened, what is opened was made: in plain words. -/
namespace Go.Proofs.YtbpjdfnnlmblaaaGreatDoor
open Go.RowKit Go.Shelf
set_option linter.unusedSimpArgs false
set_option linter.unusedVariables false
section
variable {α : Type} {okp : α → Prop} {enc : α → List UInt8} {dec : List UInt8 → α × Nat × Int}
theorem rd_enc (hc : Codec okp enc dec) (z x : α) (hx : okp x) (r : List UInt8) : rdV z dec (enc x ++ r) 0 = x ∧ rdR dec (enc x ++ r) 0 = r ∧ rdX dec (enc x ++ r) 0 = 0 := by
  have h := hc.rt x hx r
  unfold rdV rdR rdX
  rw [h]
  simp
theorem wh_enc (hc : Codec okp enc dec) (z x : α) (hx : okp x) : rdV z dec (enc x) 0 = x ∧ whX dec (enc x) 0 = 0 := by
  obtain ⟨h1, h2, h3⟩ := rd_enc hc z x hx []
  rw [List.append_nil] at h1 h2 h3
  refine ⟨h1, ?_⟩
  unfold whX
  rw [h2, h3]
  simp
theorem rd_back (hc : Codec okp enc dec) (z : α) (r : List UInt8) (e : Int) (h : rdX dec r e = 0) : e = 0 ∧ r = enc (rdV z dec r e) ++ rdR dec r e ∧ okp (rdV z dec r e) := by
  rcases rd_parts z dec r e with ⟨p1, _, _, p4⟩ | ⟨_, p2, _, _, p5⟩ | ⟨p1, p2, p3, p4, _⟩
  · rw [p4] at h; exact absurd h p1
  · rw [p5] at h; exact absurd h p2
  · obtain ⟨k1, k2, k3⟩ := hc.back r (dec r).1 (dec r).2.1 (by rw [← p2])
    rw [p3, p4]
    exact ⟨p1, k1, k3⟩
theorem wh_back (hc : Codec okp enc dec) (z : α) (r : List UInt8) (e : Int) (h : whX dec r e = 0) : e = 0 ∧ r = enc (rdV z dec r e) ∧ okp (rdV z dec r e) := by
  unfold whX at h
  split at h
  · cases h
  · rename_i hn
    obtain ⟨h1, h2, h3⟩ := rd_back hc z r e h
    have h4 : rdR dec r e = [] := by
      apply List.length_eq_zero_iff.1
      exact Decidable.of_not_not (fun hq => hn ⟨h, decide_eq_false hq⟩)
    rw [h4, List.append_nil] at h2
    exact ⟨h1, h2, h3⟩
end
theorem rdD_enc (d r : List UInt8) (hd : d.length = 16) : rdV z16 decD (d ++ r) 0 = d ∧ rdR decD (d ++ r) 0 = r ∧ rdX decD (d ++ r) 0 = 0 := by
  have h : decD (d ++ r) = (d, 16, 0) := by
    unfold decD
    rw [if_neg (by rw [List.length_append]; omega), ← hd, List.take_left]
  unfold rdV rdR rdX
  rw [h]
  simp
  rw [← hd, List.drop_left]
theorem rdD_back (r : List UInt8) (e : Int) (h : rdX decD r e = 0) : e = 0 ∧ r = rdV z16 decD r e ++ rdR decD r e ∧ (rdV z16 decD r e).length = 16 := by
  rcases rd_parts z16 decD r e with ⟨p1, _, _, p4⟩ | ⟨_, p2, _, _, p5⟩ | ⟨p1, p2, p3, p4, _⟩
  · rw [p4] at h; exact absurd h p1
  · rw [p5] at h; exact absurd h p2
  · rw [p3, p4]
    unfold decD at p2 ⊢
    split at p2
    · cases p2
    · rename_i hl
      rw [if_neg hl]
      exact ⟨p1, (List.take_append_drop 16 r).symm, by show (r.take 16).length = 16; rw [List.length_take]; omega⟩
/-! the header -/
theorem four_of (l : List Int) (h : l.length = 4) : l = [l.getD 0 0, l.getD 1 0, l.getD 2 0, l.getD 3 0] := by
  match l, h with
  | [a, b, c, d], _ => rfl
theorem eight_of (l : List Int) (h : l.length = 8) : l = [l.getD 0 0, l.getD 1 0, l.getD 2 0, l.getD 3 0, l.getD 4 0, l.getD 5 0, l.getD 6 0, l.getD 7 0] := by
  match l, h with
  | [a, b, c, d, e, f, g, i], _ => rfl
theorem validB_nil {b : BK} {l : List K} (h : validB b l = true) : validB b [] = true := by
  unfold validB headB at h ⊢
  simp only [Bool.and_eq_true, decide_eq_true_eq] at h ⊢
  refine ⟨⟨h.1.1, by simp⟩, by simp⟩
theorem hd_enc (b : BK) (hb : b.mach) (hm : b.mo.length ≤ 800000) : hdB (headP b) 0 = b ∧ hdX (headP b) 0 = (if validB b [] = false then 6 else 0) := by
  obtain ⟨a1, a2, a3⟩ := rdD_enc b.dom (encIs [b.ep, b.num, b.fw, b.tm] ++ (b.pol ++ encS b.mo)) hb.dom
  obtain ⟨c1, c2, c3⟩ := rd_enc codecIs [] [b.ep, b.num, b.fw, b.tm] ⟨hb.nums, by simp⟩ (b.pol ++ encS b.mo)
  obtain ⟨d1, d2, d3⟩ := rdD_enc b.pol (encS b.mo) hb.pol
  obtain ⟨e1, e2⟩ := wh_enc codecS [] b.mo (show okS b.mo by unfold okS; omega)
  have hE : hdE (headP b) 0 = 0 := by
    unfold hdE headP
    simp only [a2, a3, c1, c3]
    simp
  have hB : hdB (headP b) 0 = b := by
    unfold hdB
    simp only [hE]
    unfold headP
    simp only [a1, a2, a3, c1, c2, d1, d2, d3, e1, if_true]
    rfl
  refine ⟨hB, ?_⟩
  unfold hdX
  simp only [hB, hE]
  unfold headP
  simp only [a2, a3, c2, d2, d3, e2]
  simp
theorem hd_back (hdr : List UInt8) (e : Int) (h : hdX hdr e = 0) : e = 0 ∧ headP (hdB hdr e) = hdr ∧ validB (hdB hdr e) [] = true ∧ (hdB hdr e).dom.length = 16 ∧ (hdB hdr e).pol.length = 16 ∧ ∀ x ∈ [(hdB hdr e).ep, (hdB hdr e).num, (hdB hdr e).fw, (hdB hdr e).tm], okI x := by
  unfold hdX at h
  simp only at h
  split at h
  · cases h
  · rename_i hn
    obtain ⟨k1, k2, k3⟩ := wh_back codecS [] _ _ h
    have hv : validB (hdB hdr e) [] = true := by
      cases hq : validB (hdB hdr e) []
      · exact absurd ⟨h, hq⟩ hn
      · rfl
    obtain ⟨d1, d2, d3⟩ := rdD_back _ _ k1
    have hE := d1
    have hE2 := d1
    unfold hdE at hE2
    simp only at hE2
    split at hE2
    · cases hE2
    · rename_i hn2
      obtain ⟨c1, c2, c3⟩ := rd_back codecIs [] _ _ hE2
      obtain ⟨a1, a2, a3⟩ := rdD_back _ _ c1
      have hl4 : (rdV [] decIs (rdR decD hdr e) (rdX decD hdr e)).length = 4 := Decidable.of_not_not (fun hq => hn2 ⟨hE2, decide_eq_false hq⟩)
      have hB : hdB hdr e = { setN { zB with dom := rdV z16 decD hdr e } (rdV [] decIs (rdR decD hdr e) (rdX decD hdr e)) with pol := rdV z16 decD (rdR decIs (rdR decD hdr e) (rdX decD hdr e)) (hdE hdr e), mo := rdV [] decS (rdR decD (rdR decIs (rdR decD hdr e) (rdX decD hdr e)) (hdE hdr e)) (rdX decD (rdR decIs (rdR decD hdr e) (rdX decD hdr e)) (hdE hdr e)) } := by
        unfold hdB
        simp only [hE, if_true]
      generalize rdV [] decS (rdR decD (rdR decIs (rdR decD hdr e) (rdX decD hdr e)) (hdE hdr e)) (rdX decD (rdR decIs (rdR decD hdr e) (rdX decD hdr e)) (hdE hdr e)) = mo at k2 k3 hB
      generalize rdR decD (rdR decIs (rdR decD hdr e) (rdX decD hdr e)) (hdE hdr e) = r3 at k2 d2
      generalize rdV z16 decD (rdR decIs (rdR decD hdr e) (rdX decD hdr e)) (hdE hdr e) = pol at d2 d3 hB
      generalize rdR decIs (rdR decD hdr e) (rdX decD hdr e) = r2 at d2 c2
      generalize rdV [] decIs (rdR decD hdr e) (rdX decD hdr e) = l at c2 c3 hl4 hB
      generalize rdR decD hdr e = r1 at c2 a2
      generalize rdV z16 decD hdr e = dom at a2 a3 hB
      have h4 := four_of l hl4
      refine ⟨a1, ?_, hv, ?_, ?_, ?_⟩
      · rw [hB]
        unfold headP setN
        simp only
        rw [← h4, a2, c2, d2, k2]
      · rw [hB]; exact a3
      · rw [hB]; exact d3
      · rw [hB]
        unfold setN
        simp only
        rw [← h4]
        exact c3.1
/-! a key -/
theorem win_raw (b : Bool) : win (rawI b) 0 1 = true := by cases b <;> decide
theorem key_enc (k : K) (hk : ∀ x ∈ numsK k, okI x) (hv : k.val.length ≤ 800000) : keyE (encKey k) 0 = 0 ∧ keyK (encKey k) 0 = k := by
  have hi8 := encIs8 k
  obtain ⟨a1, a2⟩ := wh_enc codecSs [] [encIs (numsK k), k.val] ⟨by intro x hx; simp only [List.mem_cons, List.not_mem_nil, or_false] at hx; unfold okS; rcases hx with rfl | rfl <;> omega, by simp⟩
  obtain ⟨c1, c2⟩ := wh_enc codecIs [] (numsK k) ⟨hk, by unfold numsK; simp⟩
  have h1 : kE1 (encKey k) 0 = 0 := by
    unfold kE1 encKey
    rw [a1, a2]
    simp
  have h2 : kE2 (encIs (numsK k)) = 0 := by
    unfold kE2
    rw [c1, c2]
    unfold numsK
    simp
  have h3 : kN (encIs (numsK k)) = 0 := by
    unfold kN
    rw [h2, c1, if_neg]
    intro hq
    have h := hq.2
    unfold numsK at h
    rw [show (([k.id, k.ty, k.uses, k.start, k.fin, k.ver, k.par, rawI k.raw] : List Int).getD 7 0) = rawI k.raw from rfl, win_raw] at h
    cases h
  have hE : keyE (encKey k) 0 = 0 := by
    unfold keyE
    rw [h1, if_pos rfl]
    show kN ((rdV [] decSs (encSs [encIs (numsK k), k.val]) 0).getD 0 []) = 0
    rw [a1]
    exact h3
  refine ⟨hE, ?_⟩
  unfold keyK
  rw [hE, if_pos rfl]
  show mkK (rdV [] decIs ((rdV [] decSs (encSs [encIs (numsK k), k.val]) 0).getD 0 []) 0) ((rdV [] decSs (encSs [encIs (numsK k), k.val]) 0).getD 1 []) = k
  rw [a1]
  show mkK (rdV [] decIs (encIs (numsK k)) 0) k.val = k
  rw [c1]
  unfold mkK numsK
  cases k with
  | mk id ty val uses start fin ver par raw => cases raw <;> rfl
theorem keyE_ne (s : List UInt8) (e : Int) (he : e ≠ 0) : keyE s e = e := by
  have h1 : kE1 s e = e := by
    rcases rd_parts [] decSs s e with ⟨p1, p2, p3, p4⟩ | ⟨p1, _⟩ | ⟨p1, _⟩
    · have hw : whX decSs s e = e := by unfold whX; rw [p4, if_neg (fun h => he h.1)]
      unfold kE1
      rw [hw, if_neg (fun h => he h.1)]
    · exact absurd p1 he
    · exact absurd p1 he
  unfold keyE
  rw [h1, if_neg he]
theorem key_back (s : List UInt8) (e : Int) (h : keyE s e = 0) : e = 0 ∧ encKey (keyK s e) = s := by
  have h0 : e = 0 := Decidable.of_not_not (fun hq => hq (by rw [← h, keyE_ne s e hq]))
  subst h0
  refine ⟨rfl, ?_⟩
  have hE := h
  unfold keyE at h
  split at h
  · rename_i hk1
    unfold kE1 at hk1
    split at hk1
    · cases hk1
    · rename_i hn1
      obtain ⟨_, a2, a3⟩ := wh_back codecSs [] s 0 hk1
      have hl2 : (rdV [] decSs s 0).length = 2 := Decidable.of_not_not (fun hq => hn1 ⟨hk1, decide_eq_false hq⟩)
      have h2 : ∀ l : List (List UInt8), l.length = 2 → l = [l.getD 0 [], l.getD 1 []] := by
        intro l hl
        match l, hl with
        | [a, b], _ => rfl
      have h3 := h2 _ hl2
      unfold kN at h
      split at h
      · cases h
      · rename_i hn3
        have hk2 := h
        unfold kE2 at hk2
        split at hk2
        · cases hk2
        · rename_i hn2
          obtain ⟨_, c2, c3⟩ := wh_back codecIs [] _ 0 hk2
          unfold keyK
          rw [hE, if_pos rfl]
          generalize (rdV [] decSs s 0).getD 1 [] = p1 at h3 ⊢
          generalize (rdV [] decSs s 0).getD 0 [] = p0 at h3 c2 c3 hn2 hn3 hk2 h ⊢
          have hl8 : (rdV [] decIs p0 0).length = 8 := Decidable.of_not_not (fun hq => hn2 ⟨hk2, decide_eq_false hq⟩)
          have hw : win ((rdV [] decIs p0 0).getD 7 0) 0 1 = true := by
            cases hq : win ((rdV [] decIs p0 0).getD 7 0) 0 1
            · exact absurd ⟨h, hq⟩ hn3
            · rfl
          generalize rdV [] decIs p0 0 = l at c2 hl8 hw ⊢
          have h8 := eight_of l hl8
          have h7 : rawI (l.getD 7 0 == 1) = l.getD 7 0 := by
            rw [win_iff] at hw
            unfold rawI
            by_cases hq : l.getD 7 0 = 1
            · rw [hq]; rfl
            · have : l.getD 7 0 = 0 := by omega
              rw [this]; rfl
          have hn : numsK (mkK l p1) = l := by
            unfold numsK mkK
            simp only
            rw [h7]
            exact h8.symm
          unfold encKey
          rw [hn, ← c2]
          show encSs [p0, p1] = s
          rw [← h3]
          exact a2.symm
  · rename_i hk1
    exact absurd h hk1
/-! the content -/
theorem foldK_cons (s : List UInt8) (ss : List (List UInt8)) (e : Int) : foldK (s :: ss) e = (keyK s e :: (foldK ss (keyE s e)).1, (foldK ss (keyE s e)).2) := by
  have hg : ∀ (ss : List (List UInt8)) (acc : List K) (e : Int), ss.foldl (fun p s => (p.1 ++ [keyK s p.2], keyE s p.2)) (acc, e) = (acc ++ (foldK ss e).1, (foldK ss e).2) := by
    intro ss
    induction ss with
    | nil => intro acc e; simp [foldK]
    | cons s ss ih =>
      intro acc e
      unfold foldK
      rw [List.foldl_cons, List.foldl_cons, ih, ih]
      simp
  unfold foldK
  rw [List.foldl_cons]
  exact hg ss [keyK s e] (keyE s e)
theorem fold_enc (l : List K) (h : ∀ k ∈ l, (∀ x ∈ numsK k, okI x) ∧ k.val.length ≤ 800000) : foldK (l.map encKey) 0 = (l, 0) := by
  induction l with
  | nil => rfl
  | cons k l ih =>
    obtain ⟨h1, h2⟩ := key_enc k (h k (by simp)).1 (h k (by simp)).2
    rw [List.map_cons, foldK_cons, h1, h2, ih (fun k hk => h k (by simp [hk]))]
theorem fold_back (ss : List (List UInt8)) : ∀ e, (foldK ss e).2 = 0 → e = 0 ∧ ((foldK ss e).1).map encKey = ss := by
  induction ss with
  | nil => intro e h; exact ⟨h, rfl⟩
  | cons s ss ih =>
    intro e h
    rw [foldK_cons] at h ⊢
    obtain ⟨h1, h2⟩ := ih _ h
    obtain ⟨h3, h4⟩ := key_back s e h1
    refine ⟨h3, ?_⟩
    rw [List.map_cons, h4, h2]
theorem ct_enc (l : List K) (h : ∀ k ∈ l, (∀ x ∈ numsK k, okI x) ∧ k.val.length ≤ 800000) (hl : l.length ≤ 800000) : ctK (contP l) = l ∧ ctE (contP l) = 0 := by
  obtain ⟨a1, a2⟩ := wh_enc codecSs [] (l.map encKey) ⟨by
    intro x hx
    obtain ⟨k, hk, rfl⟩ := List.mem_map.1 hx
    have := encKey_len k
    have := (h k hk).2
    unfold okS
    omega, by rw [List.length_map]; omega⟩
  have hf := fold_enc l h
  unfold ctK ctE contP
  rw [a1, a2, hf]
  exact ⟨rfl, rfl⟩
theorem ct_back (t : List UInt8) (h : ctE t = 0) : contP (ctK t) = t := by
  unfold ctE at h
  obtain ⟨h1, h2⟩ := fold_back _ _ h
  obtain ⟨_, h4, _⟩ := wh_back codecSs [] t 0 h1
  unfold contP ctK
  rw [h2]
  exact h4.symm
/-! Make and Open -/
theorem rt_open (dk : List UInt8) (b : BK) (l : List K) (hb : b.mach) (hn : numK l) (h : makeOk dk b l = true) : opE dk (makeP dk b l) = 0 ∧ opB dk (makeP dk b l) = b ∧ opK dk (makeP dk b l) = l := by
  have h2 : dk.length = 32 ∧ validB b l = true := by unfold makeOk at h; simpa using h
  obtain ⟨h32, hval⟩ := h2
  obtain ⟨m1, m2, m3⟩ := validB_mo hval
  obtain ⟨hl1, hl2⟩ := headP_len b (hb.wf (by omega))
  have hcl := contP_len hval
  obtain ⟨a1, a2, a3⟩ := rd_enc codecS [] (headP b) (show okS (headP b) by unfold okS; omega) (sealP (deriveP dk bkL) (headP b) (contP l))
  have hH : blH (makeP dk b l) = headP b := a1
  have hR : rdR decS (makeP dk b l) 0 = sealP (deriveP dk bkL) (headP b) (contP l) := a2
  have hX : rdX decS (makeP dk b l) 0 = 0 := a3
  obtain ⟨c1, c2⟩ := hd_enc b hb (by omega)
  have hB : blB (makeP dk b l) = b := by unfold blB; rw [hH, hX, c1]
  have hE : blE (makeP dk b l) = 0 := by
    unfold blE
    rw [hH, hX, c2, validB_nil hval]
    rfl
  have hsE : sealE (deriveP dk bkL) (headP b) (contP l) = 0 := by
    unfold sealE
    rw [if_pos (deriveP_len _ _), if_neg (by omega)]
  have hsX : sealX (deriveP dk bkL) (headP b) (contP l) = sealP (deriveP dk bkL) (headP b) (contP l) := by
    unfold sealX
    rw [if_pos ⟨deriveP_len _ _, by omega⟩]
  obtain ⟨o1, o2, _⟩ := law_rt (deriveP dk bkL) (headP b) (contP l) hsE
  rw [hsX] at o1 o2
  have hT : blT dk (makeP dk b l) = contP l := by unfold blT; rw [hH, hR, o1]
  have hO : blO dk (makeP dk b l) = 0 := by unfold blO; rw [hH, hR, o2]
  obtain ⟨e1, e2⟩ := ct_enc l (by
    intro k hk
    obtain ⟨i, hi, rfl⟩ := List.mem_iff_getElem.1 hk
    have q1 := hn i hi
    have q2 := validK_val (validB_val hval i hi)
    rw [keyAt_eq l i hi] at q1 q2
    exact ⟨q1, by omega⟩) (by omega)
  have hop : opE dk (makeP dk b l) = 0 := by
    unfold opE
    rw [if_pos h32, if_pos hE, if_pos hO, hT, hB, e1, e2, hval]
    rfl
  refine ⟨hop, ?_, ?_⟩
  · unfold opB; rw [if_pos hop, hB]
  · unfold opK; rw [if_pos hop, hT, e1]
theorem rt_make (dk blob : List UInt8) (h : opE dk blob = 0) : makeOk dk (opB dk blob) (opK dk blob) = true ∧ makeP dk (opB dk blob) (opK dk blob) = blob ∧ (opB dk blob).dom.length = 16 ∧ (opB dk blob).pol.length = 16 ∧ (∀ x ∈ [(opB dk blob).ep, (opB dk blob).num, (opB dk blob).fw, (opB dk blob).tm], okI x) := by
  have hop := h
  unfold opE at h
  split at h
  · rename_i h32
    split at h
    · rename_i hE
      split at h
      · rename_i hO
        split at h
        · cases h
        · rename_i hn
          have hv : validB (blB blob) (ctK (blT dk blob)) = true := by
            cases hq : validB (blB blob) (ctK (blT dk blob))
            · exact absurd ⟨h, hq⟩ hn
            · rfl
          have hB : opB dk blob = blB blob := by unfold opB; rw [if_pos hop]
          have hK : opK dk blob = ctK (blT dk blob) := by unfold opK; rw [if_pos hop]
          have hE2 := hE
          unfold blE at hE2
          obtain ⟨x1, x2, _, x4, x5, x6⟩ := hd_back _ _ hE2
          obtain ⟨_, y2, _⟩ := rd_back codecS [] blob 0 x1
          have hc := ct_back _ h
          have hdl := deriveP_len dk bkL
          have hrr : rdR decS blob 0 = sealP (deriveP dk bkL) (blH blob) (blT dk blob) := by
            have hO2 := hO
            unfold blO openE at hO2
            rw [if_pos hdl] at hO2
            split at hO2
            · cases hO2
            · rename_i q2
              split at hO2
              · cases hO2
              · rename_i q3
                split at hO2
                · rename_i q4
                  obtain ⟨x, hx⟩ := Option.isSome_iff_exists.1 q4
                  have hT : blT dk blob = x := by
                    unfold blT openX
                    rw [if_pos ⟨hdl, q2, q3⟩, hx]
                    rfl
                  rw [hT]
                  exact seal_open _ _ _ _ (by omega) hx
                · cases hO2
          have hhd : headP (blB blob) = blH blob := x2
          rw [hB, hK]
          refine ⟨by unfold makeOk; rw [decide_eq_true h32, hv]; rfl, ?_, x4, x5, x6⟩
          unfold makeP
          rw [hhd, hc, ← hrr]
          exact y2.symm
      · rename_i hO; exact absurd h hO
    · rename_i hE; exact absurd h hE
  · cases h
end Go.Proofs.YtbpjdfnnlmblaaaGreatDoor
