/- Lists of keys, appended to. -/
import Derived.Test.YtjbndfnhollfnaaKeyP
import Derived.ArgAppend
namespace Go.Proofs.Ytjbndfnhollfnaa
open Go.RowKit Go.Shelf
set_option linter.unusedSimpArgs false
set_option linter.unusedVariables false
/-- the cells of keys, one after the other -/
def kflat : List K → List Value
  | [] => []
  | k :: l => (kc k).toList ++ kflat l
theorem kc_len (k : K) : (kc k).toList.length = 9 := rfl
theorem kflat_len (l : List K) : (kflat l).length = l.length * 9 := by
  induction l with
  | nil => rfl
  | cons k l ih => rw [kflat, List.length_append, kc_len, ih, List.length_cons]; omega
theorem kflat_append (l m : List K) : kflat (l ++ m) = kflat l ++ kflat m := by
  induction l with
  | nil => rfl
  | cons k l ih => rw [List.cons_append, kflat, kflat, ih, List.append_assoc]
theorem kflat_at (l : List K) (j i : Nat) (hj : j < l.length) (hi : i < 9) : (kflat l)[j * 9 + i]? = (kc (keyAt l j))[i]? := by
  induction l generalizing j with
  | nil => simp at hj
  | cons k l ih =>
    cases j with
    | zero =>
      rw [kflat, Nat.zero_mul, Nat.zero_add, List.getElem?_append_left (by rw [kc_len]; exact hi), Array.getElem?_toList]
      rfl
    | succ j =>
      have hj' : j < l.length := by simpa using hj
      rw [kflat, List.getElem?_append_right (by rw [kc_len]; omega), kc_len, show (j + 1) * 9 + i - 9 = j * 9 + i by omega, ih j hj']
      rw [keyAt_eq _ _ hj', keyAt_eq _ _ hj]
      rfl
theorem kflat_one (l : List K) : ∀ u ∈ kflat l, u.oneCell' = true := by
  induction l with
  | nil => intro u hu; simp [kflat] at hu
  | cons k l ih =>
    intro u hu
    rw [kflat, List.mem_append] at hu
    rcases hu with hu | hu
    · simp [kc] at hu
      rcases hu with rfl | rfl | rfl | rfl | rfl | rfl | rfl | rfl | rfl <;> rfl
    · exact ih u hu
theorem RdK.flat {w : World} {a : Option Addr} {n cap : Nat} {l : List K} (h : RdK w (.slice a n cap) l) : ∀ b, a = some b → ∀ j u, (kflat l)[j]? = some u → w.cell? (b.add j) = some u := by
  obtain ⟨a', c', e, _, _, h3⟩ := h
  cases e
  intro b hb j u hu
  have hj : j < l.length * 9 := by
    have := (List.getElem?_eq_some_iff.1 hu).1
    rwa [kflat_len] at this
  obtain ⟨b0, off, e, _, hc⟩ := h3 (by omega)
  rw [hb] at e
  cases e
  have hadd : (⟨b0, off, none⟩ : Addr).add j = ⟨b0, off + j, none⟩ := by unfold Addr.add; split <;> simp_all
  have e2 : j = (j / 9) * 9 + j % 9 := by omega
  rw [hadd]
  have := hc (j / 9) (by omega) (j % 9) (by omega)
  rw [show off + j / 9 * 9 + j % 9 = off + j by omega, ← kflat_at l (j / 9) (j % 9) (by omega) (by omega), ← e2, hu] at this
  exact this
theorem ownK_rd {w : World} {base : Nat} {v : Value} {l : List K} {n : Nat} (hn : n = l.length) (h : w.ownsRow base 30 9 v n (kflat l)) : RdK w v l := by
  subst hn
  rcases h.2 with ⟨rfl, h0⟩ | ⟨g, cap, cur, rfl, hb, hg, h1, h2, h3, h4⟩
  · have : l = [] := List.length_eq_zero_iff.1 h0
    subst this
    exact RdK.nil w
  · refine ⟨_, cap, rfl, h1, h2, fun h0 => ⟨g, 0, rfl, (Array.getElem?_eq_some_iff.1 hg).1, fun j hj i hi => ?_⟩⟩
    rw [Nat.zero_add, cell_of_row _ _ _ _ _ _ hg, ← kflat_at l j i hj hi, ← h4, List.getElem?_take, if_pos (by omega), Array.getElem?_toList]
theorem info_k : (Try.prog.info? 30).map (fun i => (i.zero.map (·.cells.size), i.size)) = some (some 9, 9) := by kernel_rfl
theorem clip_k (a : Option Addr) (n cap : Nat) (w : World) (h1 : n ≤ cap) (h2 : cap ≤ maxLen) : Calls Try.prog 42 #[.slice a n cap] w fun e w' => e = .returned (.slice a n n) ∧ w' = w := by
  unfold maxLen at h2
  have i1 : (n : Int) ≤ cap := by omega
  have i2 : (0 : Int) ≤ n := by omega
  go_enter Try.func42, Try.ntmps42
  go_wp2
  go_ret
  exact ⟨rfl, rfl⟩
end Go.Proofs.Ytjbndfnhollfnaa
