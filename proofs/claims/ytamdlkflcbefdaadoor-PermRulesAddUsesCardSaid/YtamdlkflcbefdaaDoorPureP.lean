/- Plain laws of lists and of bits for the policies: sorted lists without repetitions, sets of flags. No program in sight. -/
import Derived.Lib.SlicesCompact
import Derived.WalkKit
namespace Go.Proofs.YtamdlkflcbefdaaDoor
open Go.RowKit
set_option linter.unusedSimpArgs false
set_option linter.unusedVariables false
/-! increasing lists -/
/-- sorted, without repetitions -/
def srt (l : List Int) : List Int := Lib.compact (l.mergeSort fun x y => decide (x ≤ y))
/-- strictly increasing -/
def Inc (l : List Int) : Prop := l.Pairwise (· < ·)
theorem inc_ext : ∀ (l m : List Int), Inc l → Inc m → (∀ x, x ∈ l ↔ x ∈ m) → l = m := by
  intro l
  induction l with
  | nil =>
    intro m _ _ h
    cases m with
    | nil => rfl
    | cons y m => exact absurd ((h y).2 (by simp)) (by simp)
  | cons x l ih =>
    intro m hl hm h
    cases m with
    | nil => exact absurd ((h x).1 (by simp)) (by simp)
    | cons y m =>
      have hl' := List.pairwise_cons.1 hl
      have hm' := List.pairwise_cons.1 hm
      have e : x = y := by
        have h1 := (h x).1 (by simp)
        have h2 := (h y).2 (by simp)
        rcases List.mem_cons.1 h1 with e | h1
        · exact e
        · rcases List.mem_cons.1 h2 with e | h2
          · exact e.symm
          · have := hl'.1 y h2
            have := hm'.1 x h1
            omega
      subst e
      refine congrArg (x :: ·) (ih m hl'.2 hm'.2 fun z => ⟨fun hz => ?_, fun hz => ?_⟩)
      · rcases List.mem_cons.1 ((h z).1 (by simp [hz])) with e | h1
        · have := hl'.1 z hz; omega
        · exact h1
      · rcases List.mem_cons.1 ((h z).2 (by simp [hz])) with e | h1
        · have := hm'.1 z hz; omega
        · exact h1
theorem compact_inc (l : List Int) (h : l.Pairwise (· ≤ ·)) : Inc (Lib.compact l) := by
  have hle : ∀ i j, i ≤ j → j < l.length → l.toArray[i]! ≤ l.toArray[j]! := by
    intro i j hij hj
    rw [getElem!_pos l.toArray i (by simp; omega), getElem!_pos l.toArray j (by simpa using hj)]
    rcases Nat.lt_or_ge i j with hlt | hge
    · exact List.pairwise_iff_getElem.1 h i j (by omega) hj hlt
    · obtain rfl : i = j := by omega
      exact Int.le_refl _
  unfold Inc Lib.compact Lib.compactUpTo
  rw [List.pairwise_map, List.pairwise_filter]
  refine (List.pairwise_lt_range (n := l.length)).imp_of_mem ?_
  intro i j hi hj hij _ hk
  have hj' : j < l.length := by simpa using hj
  have h1 := hle i (j - 1) (by omega) (by omega)
  have h2 := hle (j - 1) j (by omega) hj'
  have hne : l.toArray[j]! ≠ l.toArray[j - 1]! := by
    have := of_decide_eq_true hk
    rcases this with h0 | h0
    · omega
    · exact h0
  omega
theorem mem_compact (l : List Int) (x : Int) : x ∈ Lib.compact l ↔ x ∈ l := by
  unfold Lib.compact Lib.compactUpTo
  simp only [List.mem_map, List.mem_filter, List.mem_range]
  constructor
  · rintro ⟨i, ⟨hi, _⟩, rfl⟩
    rw [getElem!_pos l.toArray i (by simpa using hi)]
    simp
  · intro hx
    obtain ⟨i, hi, rfl⟩ := List.mem_iff_getElem.1 hx
    have key : ∀ i, i < l.length → ∃ a, (a < l.length ∧ Lib.keeps l.toArray a = true) ∧ l.toArray[a]! = l.toArray[i]! := by
      intro i
      induction i with
      | zero => intro h; exact ⟨0, ⟨h, by simp [Lib.keeps]⟩, rfl⟩
      | succ i ih =>
        intro h
        by_cases e : l.toArray[i + 1]! = l.toArray[i]!
        · obtain ⟨a, h1, h2⟩ := ih (by omega)
          exact ⟨a, h1, by rw [h2, e]⟩
        · exact ⟨i + 1, ⟨h, by simp only [Lib.keeps, decide_eq_true_eq]; right; exact e⟩, rfl⟩
    obtain ⟨a, h1, h2⟩ := key i hi
    refine ⟨a, h1, ?_⟩
    rw [h2, getElem!_pos l.toArray i (by simpa using hi)]
    simp
theorem sort_le (l : List Int) : (l.mergeSort fun x y => decide (x ≤ y)).Pairwise (· ≤ ·) := by
  have := List.pairwise_mergeSort (le := fun x y : Int => decide (x ≤ y)) (fun a b c h1 h2 => by simp only [decide_eq_true_eq] at *; omega) (fun a b => by simp only [Bool.or_eq_true, decide_eq_true_eq]; omega) l
  exact this.imp fun h => by simpa using h
theorem srt_inc (l : List Int) : Inc (srt l) := compact_inc _ (sort_le l)
theorem mem_srt (l : List Int) (x : Int) : x ∈ srt l ↔ x ∈ l := by unfold srt; rw [mem_compact, List.mem_mergeSort]
theorem srt_len (l : List Int) : (srt l).length ≤ l.length := by
  have h : (Lib.compact (l.mergeSort fun x y => decide (x ≤ y))).length ≤ (l.mergeSort fun x y => decide (x ≤ y)).length := by
    unfold Lib.compact Lib.compactUpTo
    rw [List.length_map]
    exact Nat.le_trans (List.length_filter_le _ _) (by simp)
  rw [List.length_mergeSort] at h
  exact h
/-- one step of the reference's insertion -/
def insStep (n : Int) (s : List Int × Bool) (x : Int) : List Int × Bool := if n < x ∧ s.2 = false then (s.1 ++ [n, x], true) else (s.1 ++ [x], s.2)
/-- .. and its end -/
def insEnd (n : Int) (s : List Int × Bool) : List Int := if s.2 then s.1 else s.1 ++ [n]
def ins (n : Int) (l : List Int) : List Int := if n ∈ l then l else insEnd n (l.foldl (insStep n) ([], false))
def insR (n : Int) : List Int → List Int
  | [] => [n]
  | x :: l => if n < x then n :: x :: l else x :: insR n l
theorem ins_done (n : Int) (l out : List Int) : l.foldl (insStep n) (out, true) = (out ++ l, true) := by
  induction l generalizing out with
  | nil => simp
  | cons x l ih => rw [List.foldl_cons, insStep, if_neg (by simp), ih]; simp
theorem ins_rec (n : Int) (l out : List Int) : insEnd n (l.foldl (insStep n) (out, false)) = out ++ insR n l := by
  induction l generalizing out with
  | nil => simp [insEnd, insR]
  | cons x l ih =>
    rw [List.foldl_cons, insR]
    by_cases h : n < x
    · rw [insStep, if_pos ⟨h, rfl⟩, ins_done, if_pos h]; simp [insEnd]
    · rw [insStep, if_neg (by simp [h]), ih, if_neg h]; simp
theorem mem_insR (n : Int) (l : List Int) (x : Int) : x ∈ insR n l ↔ x = n ∨ x ∈ l := by
  induction l with
  | nil => simp [insR]
  | cons y l ih =>
    rw [insR]
    split
    · simp
    · simp only [List.mem_cons, ih]; constructor
      · rintro (h | h | h) <;> simp [h]
      · rintro (h | h | h) <;> simp [h]
theorem mem_ins (n : Int) (l : List Int) (x : Int) : x ∈ ins n l ↔ x = n ∨ x ∈ l := by
  unfold ins
  split
  · rename_i h
    constructor
    · exact Or.inr
    · rintro (rfl | h')
      · exact h
      · exact h'
  · rw [ins_rec, List.nil_append, mem_insR]
theorem inc_insR (n : Int) (l : List Int) (h : Inc l) (hn : n ∉ l) : Inc (insR n l) := by
  induction l with
  | nil => simp [insR, Inc]
  | cons y l ih =>
    have h' := List.pairwise_cons.1 h
    have hy : n ≠ y := fun e => hn (by simp [e])
    rw [insR]
    split
    · rename_i hlt
      refine List.pairwise_cons.2 ⟨fun a ha => ?_, h⟩
      rcases List.mem_cons.1 ha with e | ha
      · omega
      · have := h'.1 a ha; omega
    · refine List.pairwise_cons.2 ⟨fun a ha => ?_, ih h'.2 (fun hm => hn (by simp [hm]))⟩
      rcases (mem_insR n l a).1 ha with e | ha
      · omega
      · exact h'.1 a ha
theorem inc_ins (n : Int) (l : List Int) (h : Inc l) : Inc (ins n l) := by
  unfold ins
  split
  · exact h
  · rename_i hn; rw [ins_rec, List.nil_append]; exact inc_insR n l h hn
theorem ins_len (n : Int) (l : List Int) : (ins n l).length ≤ l.length + 1 := by
  unfold ins
  split
  · omega
  · rw [ins_rec, List.nil_append]
    have : ∀ l, (insR n l).length = l.length + 1 := by
      intro l
      induction l with
      | nil => rfl
      | cons y l ih => rw [insR]; split <;> simp [ih]
    rw [this]; omega
/-- the numbers that are picked, each put in at its place -/
def insAll (l : List Int) : List Int := l.foldl (fun o n => ins n o) []
theorem insAll_snoc (l : List Int) (n : Int) : insAll (l ++ [n]) = ins n (insAll l) := by unfold insAll; rw [List.foldl_append]; rfl
theorem insAll_inc (l : List Int) : Inc (insAll l) ∧ (∀ x, x ∈ insAll l ↔ x ∈ l) ∧ (insAll l).length ≤ l.length := by
  have key : ∀ (l acc : List Int), Inc acc → Inc (l.foldl (fun o n => ins n o) acc) ∧ (∀ x, x ∈ l.foldl (fun o n => ins n o) acc ↔ x ∈ l ∨ x ∈ acc) ∧ (l.foldl (fun o n => ins n o) acc).length ≤ acc.length + l.length := by
    intro l
    induction l with
    | nil => intro acc h; exact ⟨h, by simp, by simp⟩
    | cons n l ih =>
      intro acc h
      obtain ⟨h1, h2, h3⟩ := ih (ins n acc) (inc_ins n acc h)
      refine ⟨h1, fun x => ?_, ?_⟩
      · rw [List.foldl_cons, h2, mem_ins, List.mem_cons]
        constructor
        · rintro (h | h | h) <;> simp [h]
        · rintro ((h | h) | h) <;> simp [h]
      · have := ins_len n acc
        rw [List.foldl_cons, List.length_cons]; omega
  obtain ⟨h1, h2, h3⟩ := key l [] (by simp [Inc])
  exact ⟨h1, fun x => by rw [insAll, h2]; simp, by simpa [insAll] using h3⟩
theorem srt_insAll (l : List Int) : srt l = insAll l :=
  inc_ext _ _ (srt_inc l) (insAll_inc l).1 fun x => by rw [mem_srt, (insAll_inc l).2.1]
/-! sets of flags -/
/-- a number of 64 bits -/
def I64 (a : Int) : Prop := -9223372036854775808 ≤ a ∧ a ≤ 9223372036854775807
def band (a b : Int) : Int := bits .and .i64 a b
def bor (a b : Int) : Int := bits .or .i64 a b
def bnot (a b : Int) : Int := bits .andNot .i64 a b
/-- the set of a number -/
def bv (a : Int) : BitVec 64 := BitVec.ofInt 64 a
theorem wrap_nat (x : BitVec 64) : IntKind.i64.wrap (x.toNat : Int) = x.toInt := by
  have := x.isLt
  rw [IntKind.wrap_i64, BitVec.toInt_eq_toNat_cond]
  split <;> omega
theorem toInt_I64 (x : BitVec 64) : I64 x.toInt := by
  have h1 := BitVec.le_toInt x
  have h2 := BitVec.toInt_lt (x := x)
  unfold I64
  omega
theorem bv_inj {a b : Int} (ha : I64 a) (hb : I64 b) (h : bv a = bv b) : a = b := by
  have := congrArg BitVec.toInt h
  unfold bv at this
  unfold I64 at ha hb
  rw [BitVec.toInt_ofInt, BitVec.toInt_ofInt, Int.bmod_eq_of_le (by omega) (by omega), Int.bmod_eq_of_le (by omega) (by omega)] at this
  exact this
theorem bv_toInt (x : BitVec 64) : bv x.toInt = x := by unfold bv; simp
theorem band_eq (a b : Int) : band a b = (bv a &&& bv b).toInt := wrap_nat _
theorem bor_eq (a b : Int) : bor a b = (bv a ||| bv b).toInt := wrap_nat _
theorem bnot_eq (a b : Int) : bnot a b = (bv a &&& ~~~(bv b)).toInt := wrap_nat _
theorem band_I (a b : Int) : I64 (band a b) := by rw [band_eq]; exact toInt_I64 _
theorem bor_I (a b : Int) : I64 (bor a b) := by rw [bor_eq]; exact toInt_I64 _
theorem bnot_I (a b : Int) : I64 (bnot a b) := by rw [bnot_eq]; exact toInt_I64 _
theorem bv_band (a b : Int) : bv (band a b) = bv a &&& bv b := by rw [band_eq, bv_toInt]
theorem bv_bor (a b : Int) : bv (bor a b) = bv a ||| bv b := by rw [bor_eq, bv_toInt]
theorem bv_bnot (a b : Int) : bv (bnot a b) = bv a &&& ~~~(bv b) := by rw [bnot_eq, bv_toInt]
theorem bv_zero : bv 0 = 0#64 := by decide
/-- all bits of a are in b -/
def subB (a b : Int) : Bool := bnot a b == 0
theorem subset_bv (x y : BitVec 64) : (x &&& ~~~y = 0#64) ↔ (x &&& y = x) := by
  constructor
  · intro h
    apply BitVec.eq_of_getLsbD_eq
    intro i hi
    have := congrArg (fun z => BitVec.getLsbD z i) h
    simp [hi] at this
    simp only [BitVec.getLsbD_and]
    cases h1 : x.getLsbD i <;> cases h2 : y.getLsbD i <;> simp_all
  · intro h
    apply BitVec.eq_of_getLsbD_eq
    intro i hi
    have := congrArg (fun z => BitVec.getLsbD z i) h
    simp at this
    simp [hi]
    cases h1 : x.getLsbD i <;> cases h2 : y.getLsbD i <;> simp_all
theorem subB_iff (a b : Int) : subB a b = true ↔ bv a &&& ~~~(bv b) = 0#64 := by
  unfold subB
  rw [beq_iff_eq]
  constructor
  · intro h; rw [← bv_bnot, h, bv_zero]
  · intro h
    refine bv_inj (bnot_I _ _) (by unfold I64; omega) ?_
    rw [bv_bnot, h, bv_zero]
theorem subB_and (a b : Int) (ha : I64 a) : subB a b = (band a b == a) := by
  apply Bool.eq_iff_iff.2
  rw [subB_iff, subset_bv, beq_iff_eq]
  constructor
  · intro h; refine bv_inj (band_I _ _) ha ?_; rw [bv_band, h]
  · intro h; rw [← bv_band, h]
theorem subB_refl (a : Int) : subB a a = true := by
  rw [subB_iff, subset_bv]; simp
theorem subB_of_and (a b f : Int) (h : subB a b = true) : subB (band a f) b = true := by
  rw [subB_iff, subset_bv] at *
  rw [bv_band, BitVec.and_assoc, BitVec.and_comm (bv f), ← BitVec.and_assoc, h]
theorem subB_or (a b c : Int) (h : subB a b = true) : subB a (bor b c) = true := by
  rw [subB_iff, subset_bv] at *
  rw [bv_bor]
  apply BitVec.eq_of_getLsbD_eq
  intro i hi
  have := congrArg (fun z => BitVec.getLsbD z i) h
  simp at this ⊢
  intro h1
  exact .inl (this h1)
theorem bor_zero (a : Int) (ha : I64 a) : bor a 0 = a := by
  refine bv_inj (bor_I _ _) ha ?_
  rw [bv_bor, bv_zero]; simp
theorem bor_comm (a b c : Int) : bor (bor a b) c = bor (bor a c) b := by
  refine bv_inj (bor_I _ _) (bor_I _ _) ?_
  simp only [bv_bor]
  rw [BitVec.or_assoc, BitVec.or_comm (bv b), ← BitVec.or_assoc]
end Go.Proofs.YtamdlkflcbefdaaDoor
