/- Polynomials, one store after another. -/
import Derived.Test.YtbkkffdgkkcbfabPureF6d
namespace Go.Proofs.Ytbkkffdgkkcbfab
open F6
def tab (n : Nat) (f : Nat → UInt8) : List UInt8 := (List.range n).map f
theorem tab_len (n : Nat) (f : Nat → UInt8) : (tab n f).length = n := by simp [tab]
theorem tab_at (n : Nat) (f : Nat → UInt8) (j : Nat) : byteAt (tab n f) j = if j < n then f j else 0 := by
  by_cases h : j < n
  · simp [byteAt, tab, List.getD_eq_getElem?_getD, h]
  · simp [byteAt, tab, List.getD_eq_getElem?_getD, h]
theorem ext_at {l m : List UInt8} (h : l.length = m.length) (h2 : ∀ j, j < l.length → byteAt l j = byteAt m j) : l = m := by
  refine List.ext_getElem h (fun i h3 h4 => ?_)
  have := h2 i h3
  simpa [byteAt, List.getD_eq_getElem?_getD, h3, h4] using this
theorem at_set (l : List UInt8) (k j : Nat) (x : UInt8) : byteAt (l.set k x) j = if k = j ∧ j < l.length then x else byteAt l j := by
  simp only [byteAt, List.getD_eq_getElem?_getD, List.getElem?_set]
  by_cases h : k = j
  · subst h
    by_cases h2 : k < l.length
    · simp [h2]
    · simp [h2]
  · simp [h]
theorem at_out (l : List UInt8) (j : Nat) (h : l.length ≤ j) : byteAt l j = 0 := by simp [byteAt, List.getD_eq_getElem?_getD, h]
theorem at_addp (p q : List UInt8) (h : p.length = q.length) (j : Nat) : byteAt (addp p q) j = byteAt p j ^^^ byteAt q j := by
  by_cases hj : j < p.length
  · have h2 : j < q.length := by omega
    simp [byteAt, addp, List.getD_eq_getElem?_getD, List.getElem?_zipWith, hj, h2]
  · rw [at_out _ _ (by simp [addp]; omega), at_out p _ (by omega), at_out q _ (by omega), xor_self]
theorem at_map (p : List UInt8) (a : UInt8) (j : Nat) : byteAt (p.map (fun c => mul c a)) j = mul (byteAt p j) a := by
  by_cases hj : j < p.length
  · simp [byteAt, List.getD_eq_getElem?_getD, hj]
  · rw [at_out _ _ (by simp; omega), at_out p _ (by omega), zero_mul]
theorem at_app (p q : List UInt8) (j : Nat) : byteAt (p ++ q) j = if j < p.length then byteAt p j else byteAt q (j - p.length) := by
  by_cases hj : j < p.length
  · simp [byteAt, List.getD_eq_getElem?_getD, List.getElem?_append, hj]
  · simp [byteAt, List.getD_eq_getElem?_getD, List.getElem?_append, hj]
theorem at_cons (c : UInt8) (p : List UInt8) (j : Nat) : byteAt (c :: p) j = if j = 0 then c else byteAt p (j - 1) := by
  cases j with
  | zero => rfl
  | succ j => rfl
theorem at_rep (n j : Nat) : byteAt (List.replicate n (0 : UInt8)) j = 0 := by
  simp only [byteAt, List.getD_eq_getElem?_getD, List.getElem?_replicate]
  split <;> rfl
theorem at_zero (j : Nat) : byteAt [(0 : UInt8)] j = 0 := at_rep 1 j
theorem at_times (p : List UInt8) (a : UInt8) (j : Nat) : byteAt (times p a) j = (if j = 0 then 0 else byteAt p (j - 1)) ^^^ mul (byteAt p j) a := by
  rw [times, at_addp _ _ (by simp), at_cons, at_app]
  congr 1
  rw [List.length_map, at_map]
  split
  · rfl
  · rw [at_zero, at_out p _ (by omega), zero_mul]
/-- times, after k rounds -/
def tim (p : List UInt8) (a : UInt8) (k : Nat) : List UInt8 := tab (p.length + 1) fun j => (if 1 ≤ j ∧ j ≤ k then byteAt p (j - 1) else 0) ^^^ (if j < k then mul (byteAt p j) a else 0)
theorem tim_len (p : List UInt8) (a : UInt8) (k : Nat) : (tim p a k).length = p.length + 1 := tab_len _ _
theorem tim_zero (p : List UInt8) (a : UInt8) : tim p a 0 = List.replicate (p.length + 1) 0 := by
  refine ext_at (by rw [tim_len, List.length_replicate]) (fun j hj => ?_)
  rw [tim_len] at hj
  rw [tim, tab_at, if_pos hj, at_rep, if_neg (by omega), if_neg (by omega), xor_self]
theorem tim_all (p : List UInt8) (a : UInt8) : tim p a p.length = times p a := by
  refine ext_at (by rw [tim_len, length_times]) (fun j hj => ?_)
  rw [tim_len] at hj
  rw [tim, tab_at, if_pos hj, at_times]
  congr 1
  · by_cases h : j = 0
    · rw [if_neg (by omega), if_pos h]
    · rw [if_pos (by omega), if_neg h]
  · by_cases h : j < p.length
    · rw [if_pos h]
    · rw [if_neg h, at_out p _ (by omega), zero_mul]
/-- after the first half of a round -/
def tim1 (p : List UInt8) (a : UInt8) (k : Nat) : List UInt8 := (tim p a k).set (k + 1) (byteAt (tim p a k) (k + 1) ^^^ byteAt p k)
theorem tim1_len (p : List UInt8) (a : UInt8) (k : Nat) : (tim1 p a k).length = p.length + 1 := by rw [tim1, List.length_set, tim_len]
theorem tim_step (p : List UInt8) (a : UInt8) (k : Nat) (hk : k < p.length) : (tim1 p a k).set k (byteAt (tim1 p a k) k ^^^ mul (byteAt p k) a) = tim p a (k + 1) := by
  refine ext_at (by rw [List.length_set, tim1_len, tim_len]) (fun j hj => ?_)
  rw [List.length_set, tim1_len] at hj
  have e1 : ∀ i, byteAt (tim1 p a k) i = if k + 1 = i ∧ i < p.length + 1 then byteAt (tim p a k) (k + 1) ^^^ byteAt p k else byteAt (tim p a k) i := fun i => by rw [tim1, at_set, tim_len]
  have e2 : ∀ i, i < p.length + 1 → byteAt (tim p a k) i = (if 1 ≤ i ∧ i ≤ k then byteAt p (i - 1) else 0) ^^^ (if i < k then mul (byteAt p i) a else 0) := fun i hi => by rw [tim, tab_at, if_pos hi]
  rw [at_set, tim1_len, tim, tab_at, if_pos hj]
  by_cases h1 : k = j
  · subst h1
    rw [if_pos ⟨rfl, hj⟩, e1, if_neg (by omega), e2 _ hj, if_neg (show ¬ k < k by omega), if_pos (show k < k + 1 by omega), xor_zero]
    congr 1
    by_cases h2 : 1 ≤ k
    · rw [if_pos (by omega), if_pos (by omega)]
    · rw [if_neg (by omega), if_neg (by omega)]
  · rw [if_neg (by omega), e1]
    by_cases h2 : k + 1 = j
    · subst h2
      rw [if_pos ⟨rfl, hj⟩, e2 _ hj, if_neg (by omega), if_neg (by omega), if_pos (by omega), if_neg (by omega), xor_self, zero_xor, xor_zero]
      rfl
    · rw [if_neg (by omega), e2 _ hj]
      congr 1
      · by_cases h3 : 1 ≤ j ∧ j ≤ k
        · rw [if_pos h3, if_pos (by omega)]
        · rw [if_neg h3, if_neg (by omega)]
      · by_cases h3 : j < k
        · rw [if_pos h3, if_pos (by omega)]
        · rw [if_neg h3, if_neg (by omega)]
/-- a multiple added, after k rounds -/
def acc (out p : List UInt8) (d : UInt8) (k : Nat) : List UInt8 := tab out.length fun j => byteAt out j ^^^ (if j < k then mul (byteAt p j) d else 0)
theorem acc_len (out p : List UInt8) (d : UInt8) (k : Nat) : (acc out p d k).length = out.length := tab_len _ _
theorem acc_zero (out p : List UInt8) (d : UInt8) : acc out p d 0 = out := by
  refine ext_at (acc_len _ _ _ _) (fun j hj => ?_)
  rw [acc_len] at hj
  rw [acc, tab_at, if_pos hj, if_neg (by omega), xor_zero]
theorem acc_step (out p : List UInt8) (d : UInt8) (k : Nat) : (acc out p d k).set k (byteAt (acc out p d k) k ^^^ mul (byteAt p k) d) = acc out p d (k + 1) := by
  refine ext_at (by rw [List.length_set, acc_len, acc_len]) (fun j hj => ?_)
  rw [List.length_set, acc_len] at hj
  rw [at_set, acc_len]
  by_cases h : k = j
  · subst h
    rw [if_pos ⟨rfl, hj⟩, acc, acc, tab_at, tab_at, if_pos hj, if_pos hj, if_neg (by omega), if_pos (by omega), xor_zero]
  · rw [if_neg (fun e => h e.1), acc, acc, tab_at, tab_at, if_pos hj, if_pos hj]
    congr 1
    by_cases h3 : j < k
    · rw [if_pos h3, if_pos (by omega)]
    · rw [if_neg h3, if_neg (by omega)]
theorem acc_all (out p : List UInt8) (d : UInt8) (h : p.length ≤ out.length) : acc out p d p.length = addLow out (p.map (fun c => mul c d)) := by
  refine ext_at (by simp [acc_len, addLow, addp]; omega) (fun j hj => ?_)
  rw [acc_len] at hj
  rw [acc, tab_at, if_pos hj, addLow, at_addp _ _ (by simp; omega), at_app, List.length_map]
  congr 1
  by_cases h2 : j < p.length
  · rw [if_pos h2, if_pos h2, at_map]
  · rw [if_neg h2, if_neg h2, at_rep]
theorem acc_all' (out p : List UInt8) (d : UInt8) (h : p.length = out.length) : acc out p d p.length = addp out (p.map (fun c => mul c d)) := by
  rw [acc_all _ _ _ (by omega), addLow]
  congr 1
  simp [h]
/-- times in place, from above, down to k -/
def dn (p : List UInt8) (x : UInt8) (k : Nat) : List UInt8 := tab p.length fun j => if k < j then byteAt p (j - 1) ^^^ mul (byteAt p j) x else byteAt p j
theorem dn_len (p : List UInt8) (x : UInt8) (k : Nat) : (dn p x k).length = p.length := tab_len _ _
theorem dn_top (p : List UInt8) (x : UInt8) (k : Nat) (h : p.length ≤ k + 1) : dn p x k = p := by
  refine ext_at (dn_len _ _ _) (fun j hj => ?_)
  rw [dn_len] at hj
  rw [dn, tab_at, if_pos hj, if_neg (by omega)]
theorem dn_step (p : List UInt8) (x : UInt8) (k : Nat) (hk : k + 1 < p.length) : (dn p x (k + 1)).set (k + 1) (byteAt (dn p x (k + 1)) k ^^^ mul (byteAt (dn p x (k + 1)) (k + 1)) x) = dn p x k := by
  refine ext_at (by rw [List.length_set, dn_len, dn_len]) (fun j hj => ?_)
  rw [List.length_set, dn_len] at hj
  have e2 : ∀ m i, i < p.length → byteAt (dn p x m) i = if m < i then byteAt p (i - 1) ^^^ mul (byteAt p i) x else byteAt p i := fun m i hi => by rw [dn, tab_at, if_pos hi]
  rw [at_set, dn_len, e2 k j hj]
  by_cases h : k + 1 = j
  · subst h
    rw [if_pos ⟨rfl, hj⟩, if_pos (by omega), e2 _ _ (by omega), e2 _ _ hj, if_neg (by omega), if_neg (by omega)]
    rfl
  · rw [if_neg (fun e => h e.1), e2 _ _ hj]
    by_cases h3 : k + 1 < j
    · rw [if_pos h3, if_pos (by omega)]
    · rw [if_neg h3, if_neg (by omega)]
theorem dn_all (q : List UInt8) (x : UInt8) : (dn (q ++ [0]) x 0).set 0 (mul (byteAt (dn (q ++ [0]) x 0) 0) x) = times q x := by
  refine ext_at (by rw [List.length_set, dn_len, length_times]; simp) (fun j hj => ?_)
  rw [List.length_set, dn_len] at hj
  have e3 : ∀ j, byteAt (q ++ [0]) j = byteAt q j := fun j => by
    rw [at_app]
    split
    · rfl
    · rw [at_zero, at_out q _ (by omega)]
  have e2 : ∀ i, i < (q ++ [0]).length → byteAt (dn (q ++ [0]) x 0) i = if 0 < i then byteAt q (i - 1) ^^^ mul (byteAt q i) x else byteAt q i := fun i hi => by rw [dn, tab_at, if_pos hi, e3, e3]
  rw [at_set, dn_len, at_times]
  by_cases h : 0 = j
  · subst h
    rw [if_pos ⟨rfl, hj⟩, e2 _ hj, if_neg (by omega), if_pos rfl, zero_xor]
  · rw [if_neg (fun e => h e.1), e2 _ hj, if_pos (by omega), if_neg (by omega)]
/-- the product of the x + xs[j], j < k, but i -/
def mkp (xs : List UInt8) (i k : Nat) : List UInt8 := mk ((xs.take k).eraseIdx i)
theorem mkp_zero (xs : List UInt8) (i : Nat) : mkp xs i 0 = [1] := by simp [mkp, mk]
theorem mkp_step (xs : List UInt8) (i k : Nat) (hk : k < xs.length) (h : k ≠ i) : mkp xs i (k + 1) = times (mkp xs i k) (byteAt xs k) := by
  have e : (xs.take (k + 1)).eraseIdx i = (xs.take k).eraseIdx i ++ [byteAt xs k] := by
    rw [take_snoc xs k hk]
    by_cases hi : i < k
    · rw [List.eraseIdx_append_of_lt_length (by rw [List.length_take]; omega)]
    · rw [List.eraseIdx_of_length_le (by rw [List.length_append, List.length_take, List.length_singleton]; omega), List.eraseIdx_of_length_le (by rw [List.length_take]; omega)]
  rw [mkp, e, mk_snoc]; rfl
theorem mkp_skip (xs : List UInt8) (i : Nat) (hi : i < xs.length) : mkp xs i (i + 1) = mkp xs i i := by
  have e : (xs.take (i + 1)).eraseIdx i = (xs.take i).eraseIdx i := by
    rw [take_snoc xs i hi, List.eraseIdx_of_length_le (l := xs.take i) (by rw [List.length_take]; omega), List.eraseIdx_append_of_length_le (by rw [List.length_take]; omega)]
    have : i - (xs.take i).length = 0 := by rw [List.length_take]; omega
    rw [this]; simp
  rw [mkp, e]; rfl
theorem mkp_len (xs : List UInt8) (i : Nat) (hi : i < xs.length) : (mkp xs i xs.length).length = xs.length := by
  rw [mkp, length_mk, List.take_length, List.length_eraseIdx, if_pos hi]; omega
theorem mkp_bound (xs : List UInt8) (i k : Nat) (hk : k ≤ xs.length) : (mkp xs i k).length ≤ xs.length + 1 := by
  rw [mkp, length_mk, List.length_eraseIdx, List.length_take]
  split <;> omega
theorem lag_all (xs ys : List UInt8) : lag xs ys xs.length = coef xs ys := rfl
theorem lag_zero (xs ys : List UInt8) : lag xs ys 0 = List.replicate xs.length 0 := rfl
theorem lag_step (xs ys : List UInt8) (i : Nat) (hi : i < xs.length) :
    acc (lag xs ys i) (mkp xs i xs.length) (div (byteAt ys i) (pp xs i (byteAt xs i) xs.length)) (mkp xs i xs.length).length = lag xs ys (i + 1) := by
  rw [acc_all' _ _ _ (by rw [mkp_len _ _ hi, length_lag _ _ _ (by omega)]), mkp, List.take_length, pp_all]; rfl
/-- the product of the first k -/
def mkt (xs : List UInt8) (k : Nat) : List UInt8 := mk (xs.take k)
theorem mkt_zero (xs : List UInt8) : mkt xs 0 = [1] := by simp [mkt, mk]
theorem mkt_len (xs : List UInt8) (k : Nat) (h : k ≤ xs.length) : (mkt xs k).length = k + 1 := by rw [mkt, length_mk, List.length_take]; omega
theorem mkt_succ (xs : List UInt8) (k : Nat) (h : k < xs.length) : times (mkt xs k) (byteAt xs k) = mkt xs (k + 1) := by rw [mkt, mkt, take_snoc xs k h, mk_snoc]
theorem newton_zero (xs ys : List UInt8) : newton xs ys 0 = List.replicate xs.length 0 := rfl
/-- the next difference -/
def nd (xs ys : List UInt8) (k : Nat) : UInt8 := div (byteAt ys k ^^^ ev (newton xs ys k) (byteAt xs k)) (ev (mkt xs k) (byteAt xs k))
theorem newton_succ (xs ys : List UInt8) (k : Nat) (h : k < xs.length) : acc (newton xs ys k) (mkt xs k) (nd xs ys k) (mkt xs k).length = newton xs ys (k + 1) := by
  rw [acc_all _ _ _ (by rw [mkt_len _ _ (by omega), length_newton _ _ _ (by omega)]; omega)]; rfl
theorem nd_ne (xs : List UInt8) (hn : xs.Nodup) (k : Nat) (h : k < xs.length) : ev (mkt xs k) (byteAt xs k) ≠ 0 := by
  rw [mkt, ev_mk]
  refine prr_ne (fun hm => ?_)
  obtain ⟨i, hi, he⟩ := List.mem_iff_getElem.1 hm
  have hlt : (xs.take k).length = k := by simp; omega
  rw [List.getElem_take] at he
  have : xs[i]'(by omega) = xs[k]'(by omega) := by rw [he]; simp [byteAt, List.getD_eq_getElem?_getD, h]
  have := nodup_inj hn _ _ this
  omega
end Go.Proofs.Ytbkkffdgkkcbfab
