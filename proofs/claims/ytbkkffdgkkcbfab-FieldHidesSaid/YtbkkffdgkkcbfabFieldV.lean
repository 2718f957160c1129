/- Facts of the law on hiding; append of a slice that may be nil. -/
import Derived.Test.YtbkkffdgkkcbfabFieldU
import Derived.Deep.Upon
namespace Go.Proofs.Ytbkkffdgkkcbfab
open Go.RowKit F6
/-- append of what can be read to one's own bytes -/
theorem app_rd {w : World} {ops : Array Oper} {rest : List Oper} {o : Oper} {a : Act} {Q : Exit → Act → World → Prop} (hgd : o.guard = none) (s x : Operand)
    (ho : o.op = .call { callee := .builtin .append, args := #[s, x], argTypes := #[30, 30] })
    (base : Nat) (v : Value) (l : List UInt8) (hs : a.eval s = v) (hown : OwnB w base v l) (xv : Value) (news : List UInt8) (hx : a.eval x = xv) (hr : RdB w xv news)
    (hsz : l.length + news.length ≤ 1000000000) (hbase : base ≤ w.heap.size)
    (h : ∀ v' w', OwnB w' base v' (l ++ news) → Below base w w' → wpList Try.prog ops Q rest (a.put o.dst v') w') : wpList Try.prog ops Q (o :: rest) a w := by
  obtain ⟨ad, cap, rfl, hcap, _, hc⟩ := hr
  cases ad with
  | some p =>
    refine app_b hgd s x ho base v l hs hown p news.length cap news hx rfl (fun j u hj => ?_) hsz hbase h
    obtain ⟨h1, rfl⟩ := bv_at _ _ _ hj
    obtain ⟨b, off, e, _, hcc⟩ := hc (by omega)
    cases e
    rw [add_off]
    exact hcc j h1
  | none =>
    have hn : news = [] := by
      cases news with
      | nil => rfl
      | cons c l =>
        obtain ⟨b, off, e, _⟩ := hc (by simp)
        cases e
    subst hn
    obtain ⟨i0, hi, hz0, hz1, hz2⟩ := info_parts info5
    have key : ∃ ad' n cap', v = .slice ad' n cap' ∧ n ≤ cap' := by
      rcases hown.2 with ⟨rfl, _⟩ | ⟨g, cap', cur, rfl, _, _, h1, _⟩
      · exact ⟨none, 0, 0, rfl, Nat.le_refl _⟩
      · exact ⟨_, _, _, rfl, h1⟩
    obtain ⟨ad', n, cap', rfl, hle⟩ := key
    have hrun := run_append_nothing (P := Try.prog) w 30 30 o.type 5 i0 Try.underlying30 hi ad' n cap' hle (.slice none 0 cap) (Src.ofNil w Try.underlying30 cap)
    refine wpList_plain hgd fun K hK => ?_
    unfold Oper.wp execOp
    have hx' : a.eval x = .slice none 0 cap := hx
    simp only [ho, resolve, invoke, builtin, Sem.run_bind, Sem.run_pure, Result.andThen_ok, List.map_toArray, List.map_cons, List.map_nil, hs, hx', hrun]
    exact hK _ _ (h _ _ (by rw [List.append_nil]; exact hown) (Below.refl _ _))
theorem zero_own (w : World) : OwnB (w.alloc (.cells #[.int .u8 0] 5)) w.heap.size (.slice (some ⟨w.heap.size, 0, none⟩) 1 1) [0] :=
  BAt.own (l := [0]) ⟨by simp, heap_alloc_new _ _⟩ (Nat.le_refl _) (by unfold maxLen; simp)
theorem b8_own (w : World) (a : UInt8) : OwnB (w.alloc (.cells #[.int .u8 (B8 a)] 5)) w.heap.size (.slice (some ⟨w.heap.size, 0, none⟩) 1 1) [a] :=
  BAt.own (l := [a]) ⟨by simp, heap_alloc_new _ _⟩ (Nat.le_refl _) (by unfold maxLen; simp)
/-- one of the first i is x -/
def kn (xs : List UInt8) (x : UInt8) (i : Nat) : Bool := decide (x ∈ xs.take i)
theorem kn_zero (xs : List UInt8) (x : UInt8) : kn xs x 0 = false := by simp [kn]
theorem b8_beq (a b : UInt8) : (B8 a == B8 b) = (a == b) := by
  by_cases h : a = b
  · subst h; simp
  · rw [beq_eq_false_iff_ne.2 h, beq_eq_false_iff_ne]
    exact fun e => h (u8_inj e)
theorem kn_succ (xs : List UInt8) (x : UInt8) (i : Nat) (h : i < xs.length) : kn xs x (i + 1) = (kn xs x i || (B8 (byteAt xs i) == B8 x)) := by
  rw [b8_beq, kn, kn, take_snoc xs i h]
  by_cases h1 : x ∈ xs.take i
  · simp [h1]
  · by_cases h2 : byteAt xs i = x
    · simp [h2]
    · have h3 : ¬ x = byteAt xs i := fun e => h2 e.symm
      simp [h1, h2, h3]
theorem kn_all (xs : List UInt8) (x : UInt8) : kn xs x xs.length = decide (x ∈ xs) := by rw [kn, List.take_length]
/-- the polynomial with the value a at 0 -/
def hp (xs ys : List UInt8) (a : UInt8) : List UInt8 := coef (0 :: xs) (a :: ys)
theorem hp_len (xs ys : List UInt8) (a : UInt8) : (hp xs ys a).length = xs.length + 1 := length_coef (0 :: xs) (a :: ys)
theorem hp_0 (xs ys : List UInt8) (a : UInt8) (hok : okX (0 :: xs) = true) : ev (hp xs ys a) 0 = a :=
  coef_at (0 :: xs) (a :: ys) (okX_nodup hok).1 0 (by simp)
theorem hp_at (xs ys : List UInt8) (a : UInt8) (hok : okX (0 :: xs) = true) (i : Nat) (hi : i < xs.length) : ev (hp xs ys a) (byteAt xs i) = byteAt ys i :=
  coef_at (0 :: xs) (a :: ys) (okX_nodup hok).1 (i + 1) (by simp; omega)
theorem hides_iff (xs ys : List UInt8) (a b x : UInt8) (hok : okX (0 :: xs) = true) : ev (hp xs ys a) x = ev (hp xs ys b) x ↔ x ∈ xs ∨ a = b := by
  constructor
  · intro h
    by_cases hx : x ∈ xs
    · exact .inl hx
    · refine .inr ?_
      have hnd : xs.Nodup := (List.nodup_cons.1 (okX_nodup hok).1).2
      have e : hp xs ys a = hp xs ys b := unique (x :: xs) _ _ (List.nodup_cons.2 ⟨hx, hnd⟩) (by rw [hp_len]; rfl) (by rw [hp_len]; rfl) (fun j hj => by
        cases j with
        | zero => exact h
        | succ j =>
          have hj' : j < xs.length := by simpa using hj
          exact (hp_at xs ys a hok j hj').trans (hp_at xs ys b hok j hj').symm)
      rw [← hp_0 xs ys a hok, e, hp_0 xs ys b hok]
  · rintro (hx | rfl)
    · obtain ⟨i, hi, e⟩ := List.mem_iff_getElem.1 hx
      have e2 : byteAt xs i = x := by rw [← e]; simp [byteAt, List.getD_eq_getElem?_getD, hi]
      rw [← e2, hp_at xs ys a hok i hi, hp_at xs ys b hok i hi]
    · rfl
theorem hides_in (xs ys : List UInt8) (a b x : UInt8) (hok : okX (0 :: xs) = true) (h : kn xs x xs.length = true) : (B8 (ev (hp xs ys a) x) == B8 (ev (hp xs ys b) x)) = true := by
  rw [kn_all] at h
  rw [b8_beq, beq_iff_eq]
  exact (hides_iff xs ys a b x hok).2 (.inl (of_decide_eq_true h))
theorem hides_out (xs ys : List UInt8) (a b x : UInt8) (hok : okX (0 :: xs) = true) (h : kn xs x xs.length = false) : (B8 (ev (hp xs ys a) x) == B8 (ev (hp xs ys b) x)) = (B8 a == B8 b) := by
  rw [kn_all] at h
  have hx := of_decide_eq_false h
  rw [b8_beq, b8_beq]
  by_cases e : a = b
  · subst e; simp
  · rw [beq_eq_false_iff_ne.2 e, beq_eq_false_iff_ne]
    intro e2
    rcases (hides_iff xs ys a b x hok).1 e2 with h3 | h3
    · exact hx h3
    · exact e h3
theorem rd_cells {w : World} {a : Option Addr} {n cap : Nat} {l : List UInt8} (h : RdB w (.slice a n cap) l) : 0 < l.length → ∃ b off, a = some ⟨b, off, none⟩ ∧ b < w.heap.size ∧ ∀ i, i < l.length → w.cell? ⟨b, off + i, none⟩ = some (.int .u8 (B8 (byteAt l i))) := by
  obtain ⟨a', c', e, _, _, h3⟩ := h
  cases e
  exact h3
theorem eval_z (v : Value) (l : List UInt8) (w : World) (hv : RdB w v l) : Calls Try.prog 23 #[v, .int .u8 0] w fun e w' => e = .returned (.int .u8 (B8 (ev l 0))) ∧ Below w.heap.size w w' :=
  (eval_c v l 0 w hv).mono fun e w' ⟨he, n, hn⟩ => ⟨he, by rw [hn]; exact below_drewN _ (Below.refl _ _)⟩
theorem eval_b (v : Value) (l : List UInt8) (x : UInt8) (w : World) (hv : RdB w v l) : Calls Try.prog 23 #[v, .int .u8 (B8 x)] w fun e w' => e = .returned (.int .u8 (B8 (ev l x))) ∧ Below w.heap.size w w' :=
  (eval_c v l x w hv).mono fun e w' ⟨he, n, hn⟩ => ⟨he, by rw [hn]; exact below_drewN _ (Below.refl _ _)⟩
theorem hp_c (v u : Value) (xs ys : List UInt8) (a : UInt8) (w : World) (hv : RdB w v ([0] ++ xs)) (hu : RdB w u ([a] ++ ys)) (hok : okX (0 :: xs) = true) (hl : xs.length = ys.length) :
    Calls Try.prog 21 #[v, u] w fun e w' => ∃ ad cap, e = .returned (.tuple #[.slice ad (xs.length + 1 : Nat) cap, .int .i64 0]) ∧ RdB w' (.slice ad (xs.length + 1 : Nat) cap) (hp xs ys a) ∧ Below w.heap.size w w' := by
  have hv' : RdB w v (0 :: xs) := hv
  have hu' : RdB w u (a :: ys) := hu
  refine (coef_c v u (0 :: xs) (a :: ys) w hv' hu' hok (by simp [hl])).mono fun e w' ⟨r, he, ho, hb⟩ => ?_
  have hr : RdB w' r (hp xs ys a) := ho.rd
  have hr2 := hr
  obtain ⟨ad, cap, rfl, _, _, _⟩ := hr
  rw [hp_len] at he hr2
  exact ⟨ad, cap, he, hr2, hb⟩
theorem hp_c0 (v u : Value) (xs ys : List UInt8) (a : UInt8) (w : World) (hv : RdB w v ([0] ++ xs)) (hu : RdB w u ([a] ++ ys)) (hok : okX (0 :: xs) = false) :
    Calls Try.prog 21 #[v, u] w fun e w' => e = .returned (.tuple #[.slice none 0 0, .int .i64 1]) ∧ Below w.heap.size w w' :=
  coef_c0 v u (0 :: xs) (a :: ys) w hv hu hok
end Go.Proofs.Ytbkkffdgkkcbfab
