/- The field with 256 elements on plain functions. -/
set_option linter.unusedSimpArgs false
set_option linter.unusedVariables false
namespace Go.Proofs.Ytbkkffdgkkcbfab.F6
abbrev B := UInt8
def bit (b : B) (i : Nat) : Bool := b.toNat.testBit i
theorem bit_xor (a b : B) (i : Nat) : bit (a ^^^ b) i = (bit a i != bit b i) := by
  simp only [bit, UInt8.toNat_xor, Nat.testBit_xor]
/-- times the unknown -/
def xt (a : B) : B := (a <<< 1) ^^^ (if bit a 7 then 0x1d else 0)
def xts (a : B) : Nat → B
  | 0 => a
  | n + 1 => xt (xts a n)
def mulTo (a b : B) : Nat → B
  | 0 => 0
  | n + 1 => mulTo a b n ^^^ (if bit b n then xts a n else 0)
def mul (a b : B) : B := mulTo a b 8

theorem xor_assoc (a b c : B) : a ^^^ b ^^^ c = a ^^^ (b ^^^ c) := UInt8.xor_assoc a b c
theorem xor_comm (a b : B) : a ^^^ b = b ^^^ a := UInt8.xor_comm a b
theorem xor_left_comm (a b c : B) : a ^^^ (b ^^^ c) = b ^^^ (a ^^^ c) := by rw [← xor_assoc, xor_comm a b, xor_assoc]
theorem xor_self (a : B) : a ^^^ a = 0 := UInt8.xor_self
theorem xor_zero (a : B) : a ^^^ 0 = a := UInt8.xor_zero
theorem zero_xor (a : B) : 0 ^^^ a = a := UInt8.zero_xor
theorem xor_eq_zero {a b : B} (h : a ^^^ b = 0) : a = b := by
  have : a ^^^ b ^^^ b = b := by rw [h, zero_xor]
  rwa [xor_assoc, xor_self, xor_zero] at this

/-- additive maps -/
def Add (f : B → B) : Prop := ∀ a b, f (a ^^^ b) = f a ^^^ f b
theorem Add.zero {f : B → B} (h : Add f) : f 0 = 0 := by
  have := h 0 0
  rw [xor_self] at this
  rw [this, xor_self]
theorem Add.ite {f : B → B} (h : Add f) (c : Bool) (e : B) : f (if c then e else 0) = if c then f e else 0 := by cases c <;> simp [h.zero]
def base (a : B) : B :=
  (if bit a 0 then 1 else 0) ^^^ (if bit a 1 then 2 else 0) ^^^ (if bit a 2 then 4 else 0) ^^^ (if bit a 3 then 8 else 0) ^^^
  (if bit a 4 then 16 else 0) ^^^ (if bit a 5 then 32 else 0) ^^^ (if bit a 6 then 64 else 0) ^^^ (if bit a 7 then 128 else 0)
theorem all_of {p : B → Prop} [∀ a, Decidable (p a)] (h : (List.range 256).all (fun n => decide (p (UInt8.ofNat n))) = true) (a : B) : p a := by
  have := List.all_eq_true.1 h a.toNat (by have := a.toNat_lt; simpa using this)
  simpa using this
theorem base_eq (a : B) : base a = a := all_of (p := fun a => base a = a) (by decide +kernel) a
theorem Add.ext {f g : B → B} (hf : Add f) (hg : Add g) (h0 : f 1 = g 1) (h1 : f 2 = g 2) (h2 : f 4 = g 4) (h3 : f 8 = g 8) (h4 : f 16 = g 16)
    (h5 : f 32 = g 32) (h6 : f 64 = g 64) (h7 : f 128 = g 128) (a : B) : f a = g a := by
  rw [← base_eq a]
  unfold base
  simp only [hf _ _, hg _ _, hf.ite, hg.ite, h0, h1, h2, h3, h4, h5, h6, h7]
def basis : List B := [1, 2, 4, 8, 16, 32, 64, 128]
theorem Add.ext' {f g : B → B} (hf : Add f) (hg : Add g) (h : ∀ e ∈ basis, f e = g e) (a : B) : f a = g a :=
  Add.ext hf hg (h _ (by decide)) (h _ (by decide)) (h _ (by decide)) (h _ (by decide)) (h _ (by decide)) (h _ (by decide)) (h _ (by decide)) (h _ (by decide)) a

theorem shl_xor (a b : B) : (a ^^^ b) <<< 1 = a <<< 1 ^^^ b <<< 1 := by
  apply UInt8.toBitVec_inj.1
  simp [BitVec.shiftLeft_xor_distrib]
theorem xt_add : Add xt := by
  intro a b
  unfold xt
  rw [shl_xor, bit_xor]
  cases bit a 7 <;> cases bit b 7 <;> simp [xor_assoc, xor_comm, xor_left_comm, xor_self, xor_zero, zero_xor]
theorem xts_add (n : Nat) : Add (fun a => xts a n) := by
  induction n with
  | zero => intro a b; rfl
  | succ n ih => intro a b; show xt (xts (a ^^^ b) n) = _; rw [show xts (a ^^^ b) n = xts a n ^^^ xts b n from ih a b, xt_add]; rfl
theorem mulTo_left (b : B) (n : Nat) : Add (fun a => mulTo a b n) := by
  induction n with
  | zero => intro a c; simp [mulTo, xor_self]
  | succ n ih =>
    intro a c
    show mulTo (a ^^^ c) b n ^^^ (if bit b n then xts (a ^^^ c) n else 0) = (mulTo a b n ^^^ (if bit b n then xts a n else 0)) ^^^ (mulTo c b n ^^^ (if bit b n then xts c n else 0))
    rw [show mulTo (a ^^^ c) b n = mulTo a b n ^^^ mulTo c b n from ih a c, show xts (a ^^^ c) n = xts a n ^^^ xts c n from xts_add n a c]
    cases bit b n <;> simp [xor_assoc, xor_left_comm, xor_zero]
theorem mulTo_right (a : B) (n : Nat) : Add (fun b => mulTo a b n) := by
  induction n with
  | zero => intro a c; simp [mulTo, xor_self]
  | succ n ih =>
    intro b c
    show mulTo a (b ^^^ c) n ^^^ (if bit (b ^^^ c) n then xts a n else 0) = (mulTo a b n ^^^ (if bit b n then xts a n else 0)) ^^^ (mulTo a c n ^^^ (if bit c n then xts a n else 0))
    rw [show mulTo a (b ^^^ c) n = mulTo a b n ^^^ mulTo a c n from ih b c, bit_xor]
    cases bit b n <;> cases bit c n <;> simp [xor_assoc, xor_left_comm, xor_comm, xor_zero, zero_xor, xor_self]
theorem mul_xor_left (a b c : B) : mul (a ^^^ b) c = mul a c ^^^ mul b c := mulTo_left c 8 a b
theorem mul_xor_right (a b c : B) : mul a (b ^^^ c) = mul a b ^^^ mul a c := mulTo_right a 8 b c
theorem mul_zero (a : B) : mul a 0 = 0 := (show Add (mul a) from mul_xor_right a).zero
theorem zero_mul (a : B) : mul 0 a = 0 := (show Add (fun b => mul b a) from fun b c => mul_xor_left b c a).zero
theorem add_comp {f g : B → B} (hf : Add f) (hg : Add g) : Add (fun a => f (g a)) := fun a b => by show f (g (a ^^^ b)) = _; rw [hg, hf]
theorem add_l (c : B) : Add (fun a => mul a c) := fun a b => mul_xor_left a b c
theorem add_r (c : B) : Add (mul c) := mul_xor_right c
theorem comm_basis : ∀ a ∈ basis, ∀ b ∈ basis, mul a b = mul b a := by decide +kernel
theorem mul_comm (a b : B) : mul a b = mul b a :=
  Add.ext' (f := fun a => mul a b) (g := mul b) (add_l b) (add_r b) (fun e he => Add.ext' (f := mul e) (g := fun b => mul b e) (add_r e) (add_l e) (fun k hk => comm_basis e he k hk) b) a
theorem assoc_basis : ∀ a ∈ basis, ∀ b ∈ basis, ∀ c ∈ basis, mul (mul a b) c = mul a (mul b c) := by decide +kernel
theorem mul_assoc (a b c : B) : mul (mul a b) c = mul a (mul b c) :=
  Add.ext' (f := fun a => mul (mul a b) c) (g := fun a => mul a (mul b c)) (add_comp (add_l c) (add_l b)) (add_l _)
    (fun x hx => Add.ext' (f := fun b => mul (mul x b) c) (g := fun b => mul x (mul b c)) (add_comp (add_l c) (add_r x)) (add_comp (add_r x) (add_l c))
      (fun y hy => Add.ext' (f := fun c => mul (mul x y) c) (g := fun c => mul x (mul y c)) (add_r _) (add_comp (add_r x) (add_r y)) (fun z hz => assoc_basis x hx y hy z hz) c) b) a
theorem mul_one (a : B) : mul a 1 = a := all_of (p := fun a => mul a 1 = a) (by decide +kernel) a
theorem one_mul (a : B) : mul 1 a = a := by rw [mul_comm, mul_one]
/-- a to the power n -/
def pow (a : B) : Nat → B
  | 0 => 1
  | n + 1 => mul (pow a n) a
/-- the square chain of the program: squares a i = a^(2^i), prod a i = the product of the squares 1 .. i -/
def sq (a : B) : Nat → B
  | 0 => a
  | n + 1 => mul (sq a n) (sq a n)
def sqp (a : B) : Nat → B
  | 0 => 1
  | n + 1 => mul (sqp a n) (sq a (n + 1))
def inverse (a : B) : B := sqp a 7
theorem pow_add (a : B) (m n : Nat) : pow a (m + n) = mul (pow a m) (pow a n) := by
  induction n with
  | zero => rw [Nat.add_zero, pow, mul_one]
  | succ n ih => rw [← Nat.add_assoc, pow, ih, pow, mul_assoc]
theorem sq_pow (a : B) (n : Nat) : sq a n = pow a (2 ^ n) := by
  induction n with
  | zero => show a = mul 1 a; rw [one_mul]
  | succ n ih => rw [sq, ih, ← pow_add]; congr 1; rw [Nat.pow_succ]; omega
theorem sqp_pow (a : B) (n : Nat) : sqp a n = pow a (2 ^ (n + 1) - 2) := by
  induction n with
  | zero => rfl
  | succ n ih =>
    rw [sqp, ih, sq_pow, ← pow_add]
    congr 1
    have : 2 ^ (n + 1) ≥ 2 := by have := Nat.one_le_two_pow (n := n); rw [Nat.pow_succ]; omega
    rw [Nat.pow_succ 2 (n + 1)]; omega
theorem inverse_pow (a : B) : inverse a = pow a 254 := sqp_pow a 7
theorem mul_inverse (a : B) (h : a ≠ 0) : mul a (inverse a) = 1 :=
  all_of (p := fun a => a ≠ 0 → mul a (inverse a) = 1) (by decide +kernel) a h
theorem inverse_mul (a : B) (h : a ≠ 0) : mul (inverse a) a = 1 := by rw [mul_comm, mul_inverse a h]
def div (a b : B) : B := mul a (inverse b)
theorem mul_div (a b : B) (h : b ≠ 0) : div (mul a b) b = a := by rw [div, mul_assoc, mul_inverse b h, mul_one]
theorem div_mul (a b : B) (h : b ≠ 0) : mul (div a b) b = a := by rw [div, mul_assoc, inverse_mul b h, mul_one]
theorem mul_eq_zero {a b : B} (h : mul a b = 0) : a = 0 ∨ b = 0 := by
  by_cases hb : b = 0
  · exact .inr hb
  · left; have := mul_div a b hb; rw [h, div, zero_mul] at this; exact this.symm
theorem mul_ne_zero {a b : B} (ha : a ≠ 0) (hb : b ≠ 0) : mul a b ≠ 0 := fun h => (mul_eq_zero h).elim ha hb
theorem inverse_ne_zero {a : B} (h : a ≠ 0) : inverse a ≠ 0 := by
  intro e; have := mul_inverse a h; rw [e, mul_zero] at this; exact absurd this (by decide)
theorem zero_div (a : B) : div 0 a = 0 := by rw [div, zero_mul]
end Go.Proofs.Ytbkkffdgkkcbfab.F6
namespace Go.Proofs.Ytbkkffdgkkcbfab.F6
/-- a polynomial's value -/
def ev : List B → B → B
  | [], _ => 0
  | c :: p, x => c ^^^ mul x (ev p x)
/-- the product of the differences -/
def pr (l : List B) (x : B) : B := l.foldl (fun p y => mul p (x ^^^ y)) 1
def prr : List B → B → B
  | [], _ => 1
  | y :: l, x => mul (x ^^^ y) (prr l x)
theorem pr_from (l : List B) (x a : B) : l.foldl (fun p y => mul p (x ^^^ y)) a = mul a (prr l x) := by
  induction l generalizing a with
  | nil => simp [prr, mul_one]
  | cons y l ih => rw [List.foldl_cons, ih, prr, mul_assoc]
theorem pr_eq (l : List B) (x : B) : pr l x = prr l x := by rw [pr, pr_from, one_mul]
theorem prr_append (l m : List B) (x : B) : prr (l ++ m) x = mul (prr l x) (prr m x) := by
  induction l with
  | nil => simp [prr, one_mul]
  | cons y l ih => simp [prr, ih, mul_assoc]
theorem prr_perm {l m : List B} (h : l.Perm m) (x : B) : prr l x = prr m x := by
  induction h with
  | nil => rfl
  | cons y _ ih => simp [prr, ih]
  | swap y z l => simp only [prr]; rw [← mul_assoc, ← mul_assoc, mul_comm (x ^^^ z)]
  | trans _ _ ih1 ih2 => rw [ih1, ih2]
theorem prr_zero {l : List B} {x : B} (h : x ∈ l) : prr l x = 0 := by
  induction l with
  | nil => cases h
  | cons y l ih =>
    rcases List.mem_cons.1 h with rfl | h
    · simp [prr, xor_self, zero_mul]
    · simp [prr, ih h, mul_zero]
theorem prr_ne {l : List B} {x : B} (h : x ∉ l) : prr l x ≠ 0 := by
  induction l with
  | nil => simp [prr]
  | cons y l ih =>
    simp only [List.mem_cons, not_or] at h
    exact mul_ne_zero (fun e => h.1 (xor_eq_zero e)) (ih h.2)
/-- the weight of place i -/
def wt (xs : List B) (x : B) (i : Nat) : B := div (pr (xs.eraseIdx i) x) (pr (xs.eraseIdx i) (xs.getD i 0))
def xsum (l : List B) : B := l.foldr (· ^^^ ·) 0
theorem xsum_append (l m : List B) : xsum (l ++ m) = xsum l ^^^ xsum m := by
  induction l with
  | nil => simp [xsum, zero_xor]
  | cons a l ih => simp only [xsum, List.cons_append, List.foldr_cons] at *; rw [ih, xor_assoc]
def interp (xs ys : List B) (x : B) : B := xsum ((List.range xs.length).map fun i => mul (wt xs x i) (ys.getD i 0))

theorem nodup_inj {xs : List B} (hn : xs.Nodup) {i j : Nat} (hi : i < xs.length) (hj : j < xs.length) (h : xs[i] = xs[j]) : i = j := by
  have key := List.pairwise_iff_getElem.1 hn
  rcases Nat.lt_trichotomy i j with hl | hl | hl
  · exact absurd h (key i j hi hj hl)
  · exact hl
  · exact absurd h.symm (key j i hj hi hl)
theorem mem_eraseIdx_of_ne (xs : List B) (i j : Nat) (hj : j < xs.length) (h : i ≠ j) : xs.getD j 0 ∈ xs.eraseIdx i := by
  rw [List.mem_eraseIdx_iff_getElem]
  exact ⟨j, hj, fun e => h e.symm, by simp [List.getD_eq_getElem?_getD, hj]⟩
theorem not_mem_eraseIdx (xs : List B) (hn : xs.Nodup) (i : Nat) (hi : i < xs.length) : xs.getD i 0 ∉ xs.eraseIdx i := by
  rw [List.mem_eraseIdx_iff_getElem]
  rintro ⟨j, hj, hne, he⟩
  have e2 : xs[j] = xs[i] := by rw [he]; simp [List.getD_eq_getElem?_getD, hi]
  exact hne (nodup_inj hn hj hi e2)
theorem wt_self (xs : List B) (hn : xs.Nodup) (i : Nat) (hi : i < xs.length) : wt xs (xs.getD i 0) i = 1 := by
  rw [wt, pr_eq, div, mul_inverse _ (prr_ne (not_mem_eraseIdx xs hn i hi))]
theorem wt_other (xs : List B) (i j : Nat) (hj : j < xs.length) (h : i ≠ j) : wt xs (xs.getD j 0) i = 0 := by
  rw [wt, pr_eq _ (xs.getD j 0), prr_zero (mem_eraseIdx_of_ne xs i j hj h), zero_div]
theorem xsum_delta (n : Nat) (f : Nat → B) (j : Nat) (hj : j < n) (h : ∀ i, i < n → i ≠ j → f i = 0) : xsum ((List.range n).map f) = f j := by
  induction n with
  | zero => omega
  | succ n ih =>
    rw [List.range_succ, List.map_append, xsum_append]
    by_cases e : j = n
    · subst e
      have : xsum ((List.range j).map f) = 0 := by
        have : ∀ m, m ≤ j → xsum ((List.range m).map f) = 0 := by
          intro m
          induction m with
          | zero => intro _; rfl
          | succ m ihm => intro hm; rw [List.range_succ, List.map_append, xsum_append, ihm (by omega)]; simp [xsum, h m (by omega) (by omega), xor_self]
        exact this j (Nat.le_refl _)
      rw [this]; simp [xsum, zero_xor, xor_zero]
    · rw [ih (by omega) (fun i hi hne => h i (by omega) hne)]
      simp [xsum, h n (by omega) (fun e' => e e'.symm), xor_zero]
theorem interp_at (xs ys : List B) (hn : xs.Nodup) (j : Nat) (hj : j < xs.length) : interp xs ys (xs.getD j 0) = ys.getD j 0 := by
  rw [interp, xsum_delta _ _ j hj, wt_self xs hn j hj, one_mul]
  intro i hi hne
  rw [wt_other xs i j hj hne, zero_mul]

/-- quotient by x + a -/
def dv : List B → B → List B
  | [], _ => []
  | [_], _ => []
  | _ :: d :: p, a => ev (d :: p) a :: dv (d :: p) a
theorem length_dv (p : List B) (a : B) : (dv p a).length = p.length - 1 := by
  induction p with
  | nil => rfl
  | cons c p ih =>
    cases p with
    | nil => rfl
    | cons d p => simp only [dv, List.length_cons] at *; omega
theorem mul_left_comm (a b c : B) : mul a (mul b c) = mul b (mul a c) := by rw [← mul_assoc, mul_comm a b, mul_assoc]
theorem ev_dv (p : List B) (a x : B) : ev p x ^^^ ev p a = mul (x ^^^ a) (ev (dv p a) x) := by
  induction p with
  | nil => simp [ev, dv, mul_zero]
  | cons c p ih =>
    cases p with
    | nil => simp [ev, dv, mul_zero, xor_self, xor_zero]
    | cons d p =>
      have e : mul x (ev (d :: p) x) ^^^ mul a (ev (d :: p) a) = mul x (ev (d :: p) x ^^^ ev (d :: p) a) ^^^ mul (x ^^^ a) (ev (d :: p) a) := by
        rw [mul_xor_right, mul_xor_left]
        simp only [xor_assoc]
        rw [← xor_assoc (mul x (ev (d :: p) a)) (mul x (ev (d :: p) a)), xor_self, zero_xor]
      show (c ^^^ mul x (ev (d :: p) x)) ^^^ (c ^^^ mul a (ev (d :: p) a)) = mul (x ^^^ a) (ev (d :: p) a ^^^ mul x (ev (dv (d :: p) a) x))
      have e0 : (c ^^^ mul x (ev (d :: p) x)) ^^^ (c ^^^ mul a (ev (d :: p) a)) = mul x (ev (d :: p) x) ^^^ mul a (ev (d :: p) a) := by
        simp only [xor_assoc, xor_left_comm (mul x (ev (d :: p) x))]
        rw [← xor_assoc, xor_self, zero_xor]
      rw [e0, e, ih, mul_xor_right, mul_left_comm x, xor_comm]
theorem zero_of_dv (p : List B) (a : B) (h : ∀ c ∈ dv p a, c = 0) (h0 : ev p a = 0) : ∀ c ∈ p, c = 0 := by
  induction p with
  | nil => intro c hc; cases hc
  | cons c p ih =>
    cases p with
    | nil => intro d hd; simp at hd; subst hd; simpa [ev, mul_zero, xor_zero] using h0
    | cons d p =>
      have h1 : ev (d :: p) a = 0 := h _ (by simp [dv])
      have h2 := ih (fun e he => h e (by simp [dv, he])) h1
      have h3 : c = 0 := by
        have : c ^^^ mul a (ev (d :: p) a) = 0 := h0
        rwa [h1, mul_zero, xor_zero] at this
      intro e he
      rcases List.mem_cons.1 he with rfl | he
      · exact h3
      · exact h2 e he
theorem zero_of_roots (rs : List B) : ∀ (p : List B), rs.Nodup → p.length ≤ rs.length → (∀ r ∈ rs, ev p r = 0) → ∀ c ∈ p, c = 0 := by
  induction rs with
  | nil => intro p _ hl _ c hc; have : p = [] := List.length_eq_zero_iff.1 (by simpa using hl); subst this; cases hc
  | cons r rs ih =>
    intro p hn hl hr
    have hn' := List.nodup_cons.1 hn
    refine zero_of_dv p r (ih (dv p r) hn'.2 (by rw [length_dv]; simp at hl; omega) (fun s hs => ?_)) (hr r (by simp))
    have e := ev_dv p r s
    rw [hr s (by simp [hs]), hr r (by simp), xor_self] at e
    rcases mul_eq_zero e.symm with h | h
    · exact absurd (xor_eq_zero h ▸ hs) hn'.1
    · exact h
/-- the sum of two polynomials of one length -/
def addp (p q : List B) : List B := List.zipWith (· ^^^ ·) p q
theorem ev_addp (p q : List B) (h : p.length = q.length) (x : B) : ev (addp p q) x = ev p x ^^^ ev q x := by
  induction p generalizing q with
  | nil => cases q with
    | nil => simp [addp, ev]
    | cons d q => simp at h
  | cons c p ih =>
    cases q with
    | nil => simp at h
    | cons d q =>
      have := ih q (by simpa using h)
      simp only [addp, List.zipWith_cons_cons, ev] at *
      rw [this, mul_xor_right]
      simp only [xor_assoc, xor_left_comm (mul x (ev p x))]
theorem eq_of_addp (p q : List B) (h : p.length = q.length) (hz : ∀ c ∈ addp p q, c = 0) : p = q := by
  induction p generalizing q with
  | nil => cases q with
    | nil => rfl
    | cons d q => simp at h
  | cons c p ih =>
    cases q with
    | nil => simp at h
    | cons d q =>
      simp only [addp, List.zipWith_cons_cons, List.mem_cons, forall_eq_or_imp] at hz
      rw [xor_eq_zero hz.1, ih q (by simpa using h) hz.2]
theorem unique (xs p q : List B) (hn : xs.Nodup) (hp : p.length = xs.length) (hq : q.length = xs.length)
    (h : ∀ j, j < xs.length → ev p (xs.getD j 0) = ev q (xs.getD j 0)) : p = q := by
  refine eq_of_addp p q (hp.trans hq.symm) (zero_of_roots xs _ hn (by simp [addp, hp, hq]) (fun r hr => ?_))
  obtain ⟨j, hj, rfl⟩ := List.mem_iff_getElem.1 hr
  have e := h j hj
  simp only [List.getD_eq_getElem?_getD, hj, List.getElem?_eq_getElem, Option.getD_some] at e
  rw [ev_addp _ _ (hp.trans hq.symm), e, xor_self]
/-- times (x + a) -/
def times (p : List B) (a : B) : List B := addp (0 :: p) (p.map (fun c => mul c a) ++ [0])
theorem length_times (p : List B) (a : B) : (times p a).length = p.length + 1 := by simp [times, addp]
theorem ev_append_zero (p : List B) (x : B) : ev (p ++ [0]) x = ev p x := by
  induction p with
  | nil => simp [ev, mul_zero, xor_self]
  | cons c p ih => simp [ev, ih]
theorem ev_scale (p : List B) (f x : B) : ev (p.map (fun c => mul c f)) x = mul (ev p x) f := by
  induction p with
  | nil => simp [ev, zero_mul]
  | cons c p ih => simp only [List.map_cons, ev]; rw [ih, mul_xor_left, mul_assoc]
theorem ev_times (p : List B) (a x : B) : ev (times p a) x = mul (x ^^^ a) (ev p x) := by
  rw [times, ev_addp _ _ (by simp), ev_append_zero, ev_scale, mul_xor_left, mul_comm a]
  simp [ev, zero_xor]
def mk (l : List B) : List B := l.foldl times [1]
theorem mk_snoc (l : List B) (a : B) : mk (l ++ [a]) = times (mk l) a := by simp [mk]
theorem length_from (l : List B) (p : List B) : (l.foldl times p).length = p.length + l.length := by
  induction l generalizing p with
  | nil => simp
  | cons a l ih => rw [List.foldl_cons, ih, length_times, List.length_cons]; omega
theorem length_mk (l : List B) : (mk l).length = l.length + 1 := by rw [mk, length_from]; simp; omega
theorem ev_from (l : List B) (p : List B) (x : B) : ev (l.foldl times p) x = mul (prr l x) (ev p x) := by
  induction l generalizing p with
  | nil => simp [prr, one_mul]
  | cons a l ih => rw [List.foldl_cons, ih, ev_times, prr, mul_left_comm, mul_assoc]
theorem ev_mk (l : List B) (x : B) : ev (mk l) x = prr l x := by
  rw [mk, ev_from]; simp [ev, mul_zero, xor_zero, mul_one]
/-- the sum of the first k of Lagrange's polynomials -/
def lag (xs ys : List B) : Nat → List B
  | 0 => List.replicate xs.length 0
  | k + 1 => addp (lag xs ys k) ((mk (xs.eraseIdx k)).map (fun c => mul c (div (ys.getD k 0) (pr (xs.eraseIdx k) (xs.getD k 0)))))
def coef (xs ys : List B) : List B := lag xs ys xs.length
theorem length_lag (xs ys : List B) (k : Nat) (hk : k ≤ xs.length) : (lag xs ys k).length = xs.length := by
  induction k with
  | zero => simp [lag]
  | succ k ih =>
    simp only [lag, addp, List.length_zipWith, List.length_map, length_mk, ih (by omega), List.length_eraseIdx]
    rw [if_pos (by omega)]; omega
theorem ev_zero (n : Nat) (x : B) : ev (List.replicate n 0) x = 0 := by
  induction n with
  | zero => rfl
  | succ n ih => simp [List.replicate_succ, ev, ih, mul_zero, xor_self]
theorem ev_lag (xs ys : List B) (x : B) (k : Nat) (hk : k ≤ xs.length) :
    ev (lag xs ys k) x = xsum ((List.range k).map fun i => mul (wt xs x i) (ys.getD i 0)) := by
  induction k with
  | zero => simp [lag, ev_zero, xsum]
  | succ k ih =>
    rw [lag, ev_addp, ih (by omega), List.range_succ, List.map_append, xsum_append, ev_scale, ev_mk]
    · congr 1
      simp only [List.map_cons, List.map_nil, xsum, List.foldr_cons, List.foldr_nil, xor_zero]
      rw [wt, ← pr_eq, div, div, mul_assoc, mul_comm (ys.getD k 0)]
    · rw [length_lag _ _ _ (by omega)]
      simp only [List.length_map, length_mk, List.length_eraseIdx]
      rw [if_pos (by omega)]; omega
theorem ev_coef (xs ys : List B) (x : B) : ev (coef xs ys) x = interp xs ys x := ev_lag xs ys x _ (Nat.le_refl _)
theorem length_coef (xs ys : List B) : (coef xs ys).length = xs.length := length_lag xs ys _ (Nat.le_refl _)
theorem coef_at (xs ys : List B) (hn : xs.Nodup) (j : Nat) (hj : j < xs.length) : ev (coef xs ys) (xs.getD j 0) = ys.getD j 0 := by
  rw [ev_coef, interp_at xs ys hn j hj]
theorem coef_unique (xs ys p : List B) (hn : xs.Nodup) (hp : p.length = xs.length) (h : ∀ j, j < xs.length → ev p (xs.getD j 0) = ys.getD j 0) : p = coef xs ys :=
  unique xs p _ hn hp (length_coef xs ys) (fun j hj => by rw [h j hj, coef_at xs ys hn j hj])
theorem interp_poly (xs p : List B) (hn : xs.Nodup) (hp : p.length = xs.length) (ys : List B) (h : ∀ j, j < xs.length → ys.getD j 0 = ev p (xs.getD j 0)) (x : B) : interp xs ys x = ev p x := by
  rw [← ev_coef, ← coef_unique xs ys p hn hp (fun j hj => (h j hj).symm)]
/-- the divided differences: after k points -/
def addLow (p q : List B) : List B := addp p (q ++ List.replicate (p.length - q.length) 0)
def newton (xs ys : List B) : Nat → List B
  | 0 => List.replicate xs.length 0
  | k + 1 => addLow (newton xs ys k) ((mk (xs.take k)).map (fun c => mul c (div (ys.getD k 0 ^^^ ev (newton xs ys k) (xs.getD k 0)) (ev (mk (xs.take k)) (xs.getD k 0)))))
theorem ev_append_zeros (p : List B) (n : Nat) (x : B) : ev (p ++ List.replicate n 0) x = ev p x := by
  induction p with
  | nil => simp [ev, ev_zero]
  | cons c p ih => simp [ev, ih]
theorem length_newton (xs ys : List B) (k : Nat) (hk : k ≤ xs.length) : (newton xs ys k).length = xs.length := by
  induction k with
  | zero => simp [newton]
  | succ k ih =>
    simp only [newton, addLow, addp, List.length_zipWith, List.length_append, List.length_map, length_mk, List.length_replicate, ih (by omega), List.length_take]
    omega
theorem newton_at (xs ys : List B) (hn : xs.Nodup) (k : Nat) (hk : k ≤ xs.length) : ∀ j, j < k → ev (newton xs ys k) (xs.getD j 0) = ys.getD j 0 := by
  induction k with
  | zero => intro j hj; omega
  | succ k ih =>
    intro j hj
    have hl := length_newton xs ys k (by omega)
    have hlt : (xs.take k).length = k := by simp; omega
    rw [newton, addLow, ev_addp _ _ (by simp [hl, length_mk, hlt]; omega), ev_append_zeros, ev_scale, ev_mk, ev_mk]
    by_cases e : j = k
    · subst e
      have hne : prr (xs.take j) (xs.getD j 0) ≠ 0 := by
        refine prr_ne (fun hm => ?_)
        obtain ⟨i, hi, he⟩ := List.mem_iff_getElem.1 hm
        rw [List.getElem_take] at he
        have : xs[i]'(by omega) = xs[j]'(by omega) := by rw [he]; simp [List.getD_eq_getElem?_getD, show j < xs.length by omega]
        have := nodup_inj hn _ _ this
        omega
      rw [mul_comm, div_mul _ _ hne, xor_left_comm, xor_self, xor_zero]
    · have hz : prr (xs.take k) (xs.getD j 0) = 0 := by
        refine prr_zero (List.mem_iff_getElem.2 ⟨j, by omega, ?_⟩)
        rw [List.getElem_take]; simp [List.getD_eq_getElem?_getD, show j < xs.length by omega]
      rw [hz, zero_mul, xor_zero, ih (by omega) j (by omega)]
theorem newton_coef (xs ys : List B) (hn : xs.Nodup) : newton xs ys xs.length = coef xs ys :=
  coef_unique xs ys _ hn (length_newton xs ys _ (Nat.le_refl _)) (fun j hj => newton_at xs ys hn _ (Nat.le_refl _) j hj)
theorem ev_one (n : Nat) (x : B) : ev (1 :: List.replicate n 0) x = 1 := by
  have h : ev (1 :: List.replicate n 0) x = 1 ^^^ mul x (ev (List.replicate n 0) x) := by simp only [ev]
  rw [h, ev_zero, mul_zero, xor_zero]
theorem getD_ones (n j : Nat) (h : j < n) : (List.replicate n (1 : B)).getD j 0 = 1 := by
  rw [List.getD_eq_getElem?_getD, List.getElem?_replicate, if_pos h, Option.getD_some]
theorem wt_sum (xs : List B) (hn : xs.Nodup) (h0 : 0 < xs.length) (x : B) : xsum ((List.range xs.length).map fun i => wt xs x i) = 1 := by
  have hl : (1 :: List.replicate (xs.length - 1) (0 : B)).length = xs.length := by rw [List.length_cons, List.length_replicate]; omega
  have e : interp xs (List.replicate xs.length 1) x = ev (1 :: List.replicate (xs.length - 1) 0) x :=
    interp_poly xs _ hn hl _ (fun j hj => by rw [ev_one, getD_ones _ _ hj]) x
  rw [ev_one] at e
  rw [← e, interp]
  refine congrArg xsum (List.map_congr_left (fun i hi => ?_))
  rw [getD_ones _ _ (List.mem_range.1 hi), mul_one]
end Go.Proofs.Ytbkkffdgkkcbfab.F6
