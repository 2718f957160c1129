/- Parts of a proof, joined: contracts of functions of the program and plain lemmas (CodP, WireG, CodQ, WireH, WireI, RowI, RowS, WireJ, WireK). No condition. -/
import Derived.Test.YtbpjdfnnlmblaaaGreatDoorMA03
import Derived.Laws.Bits64b
import Derived.Deep.CutBlock
import Derived.WalkMore
import Derived.Lib.Zigzag
/- Numbers are read back, in plain words. -/
namespace Go.Proofs.YtbpjdfnnlmblaaaGreatDoor
open Go.RowKit
set_option linter.unusedSimpArgs false
set_option linter.unusedVariables false
def flipOf (h : UInt8) : UInt8 := if h.toNat < 128 then 255 else 0
def beVal (l : List UInt8) : Nat := l.foldl (fun m c => 256 * m + c.toNat) 0
theorem beVal_snoc (l : List UInt8) (c : UInt8) : beVal (l ++ [c]) = 256 * beVal l + c.toNat := by
  unfold beVal
  rw [List.foldl_append]
  rfl
theorem beVal_nil : beVal [] = 0 := rfl
theorem snoc_ind {P : List UInt8 → Prop} (h0 : P []) (h1 : ∀ l c, P l → P (l ++ [c])) : ∀ l, P l := by
  intro l
  have h : ∀ n, ∀ l : List UInt8, l.length = n → P l := by
    intro n
    induction n with
    | zero => intro l hl; rw [List.length_eq_zero_iff.1 hl]; exact h0
    | succ n ih =>
      intro l hl
      have hne : l ≠ [] := by intro e; rw [e] at hl; simp at hl
      rw [← List.dropLast_concat_getLast hne]
      exact h1 _ _ (ih _ (by rw [List.length_dropLast]; omega))
  exact h _ l rfl
theorem beVal_lt (l : List UInt8) : beVal l < 256 ^ l.length := by
  induction l using snoc_ind with
  | h0 => simp [beVal]
  | h1 l c ih =>
    rw [beVal_snoc, List.length_append, List.length_singleton, Nat.pow_succ]
    have := c.toNat_lt
    omega
theorem beN_snoc (m k : Nat) : beN m (k + 1) = beN (m / 256) k ++ [UInt8.ofNat m] := by
  unfold beN
  rw [List.range_succ, List.map_append]
  congr 1
  · apply List.map_congr_left
    intro i hi
    have hi := List.mem_range.1 hi
    rw [show k + 1 - 1 - i = (k - 1 - i) + 1 by omega, Nat.pow_succ, Nat.mul_comm, ← Nat.div_div_eq_div_mul]
  · simp
theorem beVal_beN (k : Nat) : ∀ m, m < 256 ^ k → beVal (beN m k) = m := by
  induction k with
  | zero => intro m h; simp at h; subst h; rfl
  | succ k ih =>
    intro m h
    rw [beN_snoc, beVal_snoc, ih _ (by rw [Nat.pow_succ] at h; omega)]
    rw [UInt8.toNat_ofNat']
    omega
theorem beN_beVal (l : List UInt8) : beN (beVal l) l.length = l := by
  induction l using snoc_ind with
  | h0 => rfl
  | h1 l c ih =>
    rw [List.length_append, List.length_singleton, beN_snoc, beVal_snoc]
    have hc := c.toNat_lt
    rw [show (256 * beVal l + c.toNat) / 256 = beVal l by omega, ih]
    congr 2
    apply UInt8.toNat_inj.1
    rw [UInt8.toNat_ofNat']
    omega
theorem beVal_cons_ge (c : UInt8) (l : List UInt8) (hc : c ≠ 0) : 256 ^ l.length ≤ beVal (c :: l) := by
  induction l using snoc_ind with
  | h0 =>
    have h : c.toNat ≠ 0 := fun e => hc (UInt8.toNat_inj.1 e)
    show 1 ≤ 256 * 0 + c.toNat
    omega
  | h1 l d ih =>
    rw [← List.cons_append, beVal_snoc, List.length_append, List.length_singleton, Nat.pow_succ]
    omega
theorem nb_beVal (l : List UInt8) (hl : l.length ≤ 8) (h : l = [] ∨ byteAt l 0 ≠ 0) : nb (beVal l) = l.length := by
  refine nb_is _ _ hl (beVal_lt l) ?_
  cases l with
  | nil => exact .inl rfl
  | cons c t =>
    refine .inr ?_
    have hc : c ≠ 0 := by
      rcases h with h | h
      · cases h
      · exact h
    exact beVal_cons_ge c t hc
/-- a number at the beginning of bytes: the number, how many bytes, the error -/
def decI (b : List UInt8) : Int × Nat × Int :=
  match b with
  | [] => (0, 0, 5)
  | h :: r =>
    if 8 < (h ^^^ flipOf h).toNat - 128 then (0, 0, 6)
    else if r.length < (h ^^^ flipOf h).toNat - 128 then (0, 0, 5)
    else if 0 < (h ^^^ flipOf h).toNat - 128 ∧ byteAt r 0 ^^^ flipOf h = 0 then (0, 0, 6)
    else if 9223372036854775808 ≤ beVal ((r.take ((h ^^^ flipOf h).toNat - 128)).map (· ^^^ flipOf h)) then (0, 0, 6)
    else (if h.toNat < 128 then -1 - (beVal ((r.take ((h ^^^ flipOf h).toNat - 128)).map (· ^^^ flipOf h)) : Int) else (beVal ((r.take ((h ^^^ flipOf h).toNat - 128)).map (· ^^^ flipOf h)) : Int), (h ^^^ flipOf h).toNat - 128 + 1, 0)
theorem xor_xor (a f : UInt8) : a ^^^ f ^^^ f = a := by
  rw [UInt8.xor_assoc, UInt8.xor_self, UInt8.xor_zero]
theorem map_xx (l : List UInt8) (f : UInt8) : (l.map (· ^^^ f)).map (· ^^^ f) = l := by
  rw [List.map_map]
  conv => rhs; rw [← List.map_id l]
  apply List.map_congr_left
  intro a _
  exact xor_xor a f
theorem head_facts (k : Nat) (hk : k ≤ 8) (f : UInt8) (hf : f = 0 ∨ f = 255) : flipOf (UInt8.ofNat (128 + k) ^^^ f) = f ∧ ((UInt8.ofNat (128 + k) ^^^ f) ^^^ f).toNat - 128 = k ∧ ((UInt8.ofNat (128 + k) ^^^ f).toNat < 128 ↔ f = 255) := by
  rcases hf with rfl | rfl <;> rcases (by omega : k = 0 ∨ k = 1 ∨ k = 2 ∨ k = 3 ∨ k = 4 ∨ k = 5 ∨ k = 6 ∨ k = 7 ∨ k = 8) with rfl | rfl | rfl | rfl | rfl | rfl | rfl | rfl | rfl <;> decide
theorem beN_head (m : Nat) (h : 0 < nb m) (hm : m < 18446744073709551616) : byteAt (beN m (nb m)) 0 ≠ 0 := by
  intro e
  have h1 := beVal_beN (nb m) m (nb_lt m hm)
  have h2 := (nb_ge m).resolve_left (by omega)
  have hl := beN_len m (nb m)
  cases hb : beN m (nb m) with
  | nil => rw [hb] at hl; simp at hl; omega
  | cons c t =>
    rw [hb] at e h1 hl
    have hc : c = 0 := e
    subst hc
    have : beVal ((0 : UInt8) :: t) = beVal t := rfl
    rw [this] at h1
    have h3 := beVal_lt t
    rw [List.length_cons] at hl
    rw [show nb m - 1 = t.length by omega] at h2
    omega
theorem decM_enc (m : Nat) (f : UInt8) (hf : f = 0 ∨ f = 255) (hm : m < 9223372036854775808) (r : List UInt8) : decI (encM m f ++ r) = (if f = 255 then -1 - (m : Int) else (m : Int), (encM m f).length, 0) := by
  have hk := nb_le m
  obtain ⟨h1, h2, h3⟩ := head_facts (nb m) hk f hf
  have hlen := encM_len m f
  unfold encM at hlen ⊢
  rw [List.cons_append, decI, h1, h2]
  have hl : ((beN m (nb m)).map (· ^^^ f)).length = nb m := by rw [List.length_map, beN_len]
  have ht : (((beN m (nb m)).map (· ^^^ f) ++ r).take (nb m)).map (· ^^^ f) = beN m (nb m) := by
    rw [List.take_append_of_le_length (by omega), List.take_of_length_le (by omega), map_xx]
  have hv := beVal_beN (nb m) m (nb_lt m (by omega))
  rw [ht, hv, hlen, if_neg (by omega), if_neg (by rw [List.length_append]; omega), if_neg, if_neg (by omega)]
  · by_cases hff : f = 255
    · rw [if_pos (h3.2 hff), if_pos hff, Nat.add_comm]
    · rw [if_neg (fun e => hff (h3.1 e)), if_neg hff, Nat.add_comm]
  · rintro ⟨hp, he⟩
    have hb : byteAt ((beN m (nb m)).map (· ^^^ f) ++ r) 0 = byteAt (beN m (nb m)) 0 ^^^ f := by
      cases hbe : beN m (nb m) with
      | nil => have := beN_len m (nb m); rw [hbe] at this; simp at this; omega
      | cons c t => rfl
    rw [hb, xor_xor] at he
    exact beN_head m hp (by omega) he
theorem decI_enc (n : Int) (hlo : -9223372036854775808 ≤ n) (hhi : n < 9223372036854775808) (r : List UInt8) : decI (encI n ++ r) = (n, (encI n).length, 0) := by
  unfold encI
  by_cases h : 0 ≤ n
  · rw [if_pos h, decM_enc _ _ (.inl rfl) (by omega)]
    have : ¬ (0 : UInt8) = 255 := by decide
    rw [if_neg this, Int.toNat_of_nonneg h]
  · rw [if_neg h, decM_enc _ _ (.inr rfl) (by omega), if_pos rfl]
    congr 1
    omega
theorem flip_cases (h : UInt8) : (h.toNat < 128 ∧ flipOf h = 255) ∨ (¬ h.toNat < 128 ∧ flipOf h = 0) := by
  unfold flipOf
  by_cases hh : h.toNat < 128
  · exact .inl ⟨hh, if_pos hh⟩
  · exact .inr ⟨hh, if_neg hh⟩
theorem flip_ge (h : UInt8) : 128 ≤ (h ^^^ flipOf h).toNat := by
  have : ∀ x : Fin 256, 128 ≤ (UInt8.ofNat x.val ^^^ flipOf (UInt8.ofNat x.val)).toNat := by decide +kernel
  have := this ⟨h.toNat, h.toNat_lt⟩
  simpa using this
/-- what is read is what is written -/
theorem decI_ok (b : List UInt8) (n : Int) (u : Nat) (h : decI b = (n, u, 0)) : b = encI n ++ b.drop u ∧ u = (encI n).length ∧ -9223372036854775808 ≤ n ∧ n < 9223372036854775808 := by
  cases b with
  | nil => simp [decI] at h
  | cons c r =>
    rw [decI] at h
    have hge := flip_ge c
    have hcx : (c ^^^ flipOf c) ^^^ flipOf c = c := xor_xor _ _
    generalize hk : (c ^^^ flipOf c).toNat - 128 = k at h
    split at h
    · simp at h
    · rename_i h1
      split at h
      · simp at h
      · rename_i h2
        split at h
        · simp at h
        · rename_i h3
          split at h
          · simp at h
          · rename_i h4
            simp only [Prod.mk.injEq, and_true] at h
            obtain ⟨hn, hu⟩ := h
            have hl : ((r.take k).map (· ^^^ flipOf c)).length = k := by rw [List.length_map, List.length_take]; omega
            have hnb : nb (beVal ((r.take k).map (· ^^^ flipOf c))) = k := by
              rw [nb_beVal _ (by omega), hl]
              rcases Nat.eq_zero_or_pos k with h0 | h0
              · exact .inl (List.length_eq_zero_iff.1 (by rw [hl, h0]))
              · refine .inr fun e => h3 ⟨h0, ?_⟩
                cases r with
                | nil => simp at h2; omega
                | cons d t =>
                  obtain ⟨k', rfl⟩ : ∃ k', k = k' + 1 := ⟨k - 1, by omega⟩
                  exact e
            have hbe := beN_beVal ((r.take k).map (· ^^^ flipOf c))
            rw [hl] at hbe
            have hhead : UInt8.ofNat (128 + k) = c ^^^ flipOf c := by
              apply UInt8.toNat_inj.1
              rw [UInt8.toNat_ofNat']
              have := (c ^^^ flipOf c).toNat_lt
              omega
            have henc : encM (beVal ((r.take k).map (· ^^^ flipOf c))) (flipOf c) = c :: r.take k := by
              unfold encM
              rw [hnb, hbe, map_xx, hhead, hcx]
            have hb : c :: r = (c :: r.take k) ++ (c :: r).drop (k + 1) := by
              rw [List.drop_succ_cons, List.cons_append, List.take_append_drop]
            have hvl := beVal_lt ((r.take k).map (· ^^^ flipOf c))
            generalize beVal ((r.take k).map (· ^^^ flipOf c)) = v at h4 hn henc
            clear hnb hbe hhead hvl
            rcases flip_cases c with ⟨hc1, hc2⟩ | ⟨hc1, hc2⟩
            · rw [if_pos hc1] at hn
              have he : encI n = c :: r.take k := by
                unfold encI
                rw [if_neg (by omega), ← henc, hc2, show (-1 - n).toNat = v by omega]
              refine ⟨by rw [he, ← hu]; exact hb, by rw [he, ← hu, List.length_cons, List.length_take]; omega, by omega, by omega⟩
            · rw [if_neg hc1] at hn
              have he : encI n = c :: r.take k := by
                unfold encI
                rw [if_pos (by omega), ← henc, hc2, show n.toNat = v by omega]
              refine ⟨by rw [he, ← hu]; exact hb, by rw [he, ← hu, List.length_cons, List.length_take]; omega, by omega, by omega⟩
end Go.Proofs.YtbpjdfnnlmblaaaGreatDoor
/- A number is read. -/
namespace Go.Proofs.YtbpjdfnnlmblaaaGreatDoor
open Go.RowKit
set_option linter.unusedSimpArgs false
set_option linter.unusedVariables false
theorem or_byte (m : Nat) (c : UInt8) (h : m < 72057594037927936) : bits .or .u64 ((m : Int) * 256) (B8 c) = ((256 * m + c.toNat : Nat) : Int) := by
  have hc := c.toNat_lt
  have e : (m : Int) * 256 = ((256 * m : Nat) : Int) := by omega
  unfold B8
  rw [e, bits_or_u64_nat _ _ (by omega) (by omega)]
  have h1 := Nat.two_pow_add_eq_or_of_lt (i := 8) (b := c.toNat) (by omega) m
  rw [show (2 : Nat) ^ 8 * m = 256 * m by omega] at h1
  rw [h1]
theorem beVal_step (r : List UInt8) (f : UInt8) (j : Nat) (hj : j < r.length) : beVal ((r.take (j + 1)).map (· ^^^ f)) = 256 * beVal ((r.take j).map (· ^^^ f)) + (byteAt r j ^^^ f).toNat := by
  rw [List.take_add_one, List.getElem?_eq_getElem hj, List.map_append]
  show beVal (_ ++ [r[j] ^^^ f]) = _
  rw [beVal_snoc]
  congr 2
  unfold byteAt
  simp [List.getElem?_eq_getElem hj]
theorem beVal_take_lt (r : List UInt8) (f : UInt8) (j : Nat) (hj : j < 8) : beVal ((r.take j).map (· ^^^ f)) < 72057594037927936 := by
  refine Nat.lt_of_lt_of_le (beVal_lt _) ?_
  have : ((r.take j).map (· ^^^ f)).length ≤ 7 := by rw [List.length_map, List.length_take]; omega
  exact Nat.le_trans (Nat.pow_le_pow_right (by decide) this) (by decide)
end Go.Proofs.YtbpjdfnnlmblaaaGreatDoor
/- Texts and lists are read back, in plain words. -/
namespace Go.Proofs.YtbpjdfnnlmblaaaGreatDoor
open Go.RowKit
set_option linter.unusedSimpArgs false
set_option linter.unusedVariables false
/-- a count: the number, how many bytes, the error -/
def cntP (b : List UInt8) (size : Nat) : Int × Nat × Int :=
  if (decI b).2.2 ≠ 0 then decI b
  else if (decI b).1 < 0 then ((decI b).1, (decI b).2.1, 6)
  else if (((b.length - (decI b).2.1) / size : Nat) : Int) < (decI b).1 then ((decI b).1, (decI b).2.1, 5)
  else decI b
/-- a text -/
def decS (b : List UInt8) : List UInt8 × Nat × Int :=
  if (cntP b 1).2.2 ≠ 0 then ([], 0, (cntP b 1).2.2) else ((b.drop (cntP b 1).2.1).take (cntP b 1).1.toNat, (cntP b 1).2.1 + (cntP b 1).1.toNat, 0)
section
variable {α : Type}
/-- n elements from a place on, behind those that are read -/
def decA (dec : List UInt8 → α × Nat × Int) (b : List UInt8) : Nat → Nat → List α → List α × Nat × Int
  | 0, pos, acc => (acc, pos, 0)
  | n + 1, pos, acc => if (dec (b.drop pos)).2.2 ≠ 0 then ([], 0, (dec (b.drop pos)).2.2) else decA dec b n (pos + (dec (b.drop pos)).2.1) (acc ++ [(dec (b.drop pos)).1])
/-- a list -/
def decL (dec : List UInt8 → α × Nat × Int) (b : List UInt8) : List α × Nat × Int :=
  if (cntP b 1).2.2 ≠ 0 then ([], 0, (cntP b 1).2.2) else decA dec b (cntP b 1).1.toNat (cntP b 1).2.1 []
def catE (enc : α → List UInt8) (l : List α) : List UInt8 := (l.map enc).flatten
/-- the encoding of a list -/
def encL (enc : α → List UInt8) (l : List α) : List UInt8 := encI l.length ++ catE enc l
theorem catE_nil (enc : α → List UInt8) : catE enc [] = [] := rfl
theorem catE_cons (enc : α → List UInt8) (x : α) (l : List α) : catE enc (x :: l) = enc x ++ catE enc l := by unfold catE; rw [List.map_cons, List.flatten_cons]
theorem catE_snoc (enc : α → List UInt8) (x : α) (l : List α) : catE enc (l ++ [x]) = catE enc l ++ enc x := by unfold catE; simp
/-- a way to read and a way to write that belong together -/
structure Codec (ok : α → Prop) (enc : α → List UInt8) (dec : List UInt8 → α × Nat × Int) : Prop where
  rt : ∀ x, ok x → ∀ r, dec (enc x ++ r) = (x, (enc x).length, 0)
  back : ∀ b x u, dec b = (x, u, 0) → b = enc x ++ b.drop u ∧ u = (enc x).length ∧ ok x
  pos : ∀ x, 1 ≤ (enc x).length
theorem encM_pos (m : Nat) (f : UInt8) : 1 ≤ (encM m f).length := by rw [encM_len]; omega
theorem encI_pos (n : Int) : 1 ≤ (encI n).length := by unfold encI; split <;> exact encM_pos _ _
def okI (n : Int) : Prop := -9223372036854775808 ≤ n ∧ n < 9223372036854775808
theorem codecI : Codec okI encI decI := ⟨fun x h r => decI_enc x h.1 h.2 r, fun b x u h => decI_ok b x u h, encI_pos⟩
theorem decI_err (b : List UInt8) (h : (decI b).2.2 ≠ 0) : (decI b).1 = 0 ∧ (decI b).2.1 = 0 := by
  cases b with
  | nil => exact ⟨rfl, rfl⟩
  | cons c r =>
    rw [decI] at h ⊢
    split
    · exact ⟨rfl, rfl⟩
    · split
      · exact ⟨rfl, rfl⟩
      · split
        · exact ⟨rfl, rfl⟩
        · split
          · exact ⟨rfl, rfl⟩
          · rename_i h1 h2 h3 h4
            rw [if_neg h1, if_neg h2, if_neg h3, if_neg h4] at h
            exact absurd rfl h
theorem decI_used (b : List UInt8) (h : (decI b).2.2 = 0) : (decI b).2.1 ≤ b.length ∧ okI (decI b).1 := by
  obtain ⟨h1, h2, h3, h4⟩ := decI_ok b (decI b).1 (decI b).2.1 (by rw [← h])
  refine ⟨?_, h3, h4⟩
  have := congrArg List.length h1
  rw [List.length_append, List.length_drop] at this
  omega
/-- the counts -/
theorem cntP_parts (b : List UInt8) (size : Nat) : ((decI b).2.2 ≠ 0 ∧ cntP b size = (0, 0, (decI b).2.2)) ∨
    ((decI b).2.2 = 0 ∧ (decI b).1 < 0 ∧ cntP b size = ((decI b).1, (decI b).2.1, 6)) ∨
    ((decI b).2.2 = 0 ∧ ¬ (decI b).1 < 0 ∧ (((b.length - (decI b).2.1) / size : Nat) : Int) < (decI b).1 ∧ cntP b size = ((decI b).1, (decI b).2.1, 5)) ∨
    ((decI b).2.2 = 0 ∧ ¬ (decI b).1 < 0 ∧ ¬ (((b.length - (decI b).2.1) / size : Nat) : Int) < (decI b).1 ∧ cntP b size = ((decI b).1, (decI b).2.1, 0)) := by
  unfold cntP
  by_cases h : (decI b).2.2 = 0
  · refine .inr ?_
    rw [if_neg (by rw [h]; exact fun e => e rfl)]
    by_cases h1 : (decI b).1 < 0
    · exact .inl ⟨h, h1, by rw [if_pos h1]⟩
    · rw [if_neg h1]
      by_cases h2 : (((b.length - (decI b).2.1) / size : Nat) : Int) < (decI b).1
      · exact .inr (.inl ⟨h, h1, h2, by rw [if_pos h2]⟩)
      · refine .inr (.inr ⟨h, h1, h2, ?_⟩)
        rw [if_neg h2]
        conv => rhs; rw [← h]
  · refine .inl ⟨h, ?_⟩
    rw [if_pos h]
    obtain ⟨e1, e2⟩ := decI_err b h
    rw [← e1, ← e2]
theorem cntP_ok (b : List UInt8) (h : (cntP b 1).2.2 = 0) : decI b = ((cntP b 1).1, (cntP b 1).2.1, 0) ∧ 0 ≤ (cntP b 1).1 ∧ (cntP b 1).2.1 + (cntP b 1).1.toNat ≤ b.length ∧ 1 ≤ (cntP b 1).2.1 := by
  rcases cntP_parts b 1 with ⟨h1, h2⟩ | ⟨h1, h2, h3⟩ | ⟨h1, h2, h3, h4⟩ | ⟨h1, h2, h3, h4⟩
  · rw [h2] at h; exact absurd h h1
  · rw [h3] at h; cases h
  · rw [h4] at h; cases h
  · rw [h4]
    have hu := decI_used b h1
    obtain ⟨k1, k2, k3⟩ := decI_ok b (decI b).1 (decI b).2.1 (by rw [← h1])
    have := encI_pos (decI b).1
    refine ⟨by rw [← h1], by omega, ?_, by show 1 ≤ (decI b).2.1; omega⟩
    show (decI b).2.1 + (decI b).1.toNat ≤ b.length
    rw [Nat.div_one] at h3
    omega
theorem cntP_enc (n : Nat) (hn : n < 9223372036854775808) (r : List UInt8) (hr : n ≤ r.length) : cntP (encI n ++ r) 1 = ((n : Int), (encI n).length, 0) := by
  have h := decI_enc (n : Int) (by omega) (by omega) r
  unfold cntP
  rw [h, if_neg (by exact fun e => e rfl), if_neg (by show ¬ ((n : Int) < 0); omega), if_neg]
  show ¬ ((((encI n ++ r).length - (encI n).length) / 1 : Nat) : Int) < n
  rw [Nat.div_one, List.length_append]
  omega
theorem decS_enc (s r : List UInt8) (hs : s.length < 9223372036854775808) : decS (encS s ++ r) = (s, (encS s).length, 0) := by
  unfold decS
  have h : cntP (encS s ++ r) 1 = ((s.length : Int), (encI s.length).length, 0) := by
    unfold encS
    rw [List.append_assoc]
    exact cntP_enc s.length hs _ (by rw [List.length_append]; omega)
  rw [h, if_neg (by exact fun e => e rfl)]
  unfold encS
  rw [List.append_assoc, List.drop_left]
  show ((s ++ r).take ((s.length : Int).toNat), (encI s.length).length + (s.length : Int).toNat, (0 : Int)) = _
  rw [Int.toNat_natCast, List.take_left, List.length_append]
theorem decS_ok (b s : List UInt8) (u : Nat) (h : decS b = (s, u, 0)) : b = encS s ++ b.drop u ∧ u = (encS s).length ∧ u ≤ b.length ∧ s.length < 9223372036854775808 := by
  unfold decS at h
  split at h
  · rename_i hc
    simp only [Prod.mk.injEq] at h
    exact absurd h.2.2 hc
  · rename_i hc
    simp only [Prod.mk.injEq, and_true] at h
    obtain ⟨h1, h2⟩ := h
    obtain ⟨k1, k2, k3, _⟩ := cntP_ok b (Decidable.of_not_not hc)
    obtain ⟨d1, d2, d3, d4⟩ := decI_ok b _ _ k1
    generalize cntP b 1 = c at *
    have hl : s.length = c.1.toNat := by rw [← h1, List.length_take, List.length_drop]; omega
    have hi : encI (s.length : Int) = encI c.1 := by rw [hl, Int.toNat_of_nonneg k2]
    refine ⟨?_, ?_, by omega, by omega⟩
    · unfold encS
      rw [hi, List.append_assoc, ← h1, ← h2, ← List.drop_drop, List.take_append_drop]
      exact d1
    · unfold encS
      rw [hi, List.length_append, hl, ← d2, h2]
def okS (s : List UInt8) : Prop := s.length < 9223372036854775808
theorem encS_pos (s : List UInt8) : 1 ≤ (encS s).length := by unfold encS; rw [List.length_append]; have := encI_pos (s.length : Int); omega
theorem codecS : Codec okS encS decS := ⟨fun x h r => decS_enc x r h, fun b x u h => by have := decS_ok b x u h; exact ⟨this.1, this.2.1, this.2.2.2⟩, encS_pos⟩
theorem decS_err (b : List UInt8) (h : (decS b).2.2 ≠ 0) : (decS b).1 = [] ∧ (decS b).2.1 = 0 := by
  unfold decS at h ⊢
  split
  · exact ⟨rfl, rfl⟩
  · rename_i hc
    rw [if_neg hc] at h
    exact absurd rfl h
variable {ok : α → Prop} {enc : α → List UInt8} {dec : List UInt8 → α × Nat × Int}
theorem Codec.used (hc : Codec ok enc dec) (b : List UInt8) (h : (dec b).2.2 = 0) : (dec b).2.1 ≤ b.length ∧ 1 ≤ (dec b).2.1 ∧ ok (dec b).1 := by
  obtain ⟨h1, h2, h3⟩ := hc.back b (dec b).1 (dec b).2.1 (by rw [← h])
  have := congrArg List.length h1
  have hp := hc.pos (dec b).1
  rw [List.length_append, List.length_drop] at this
  exact ⟨by omega, by omega, h3⟩
theorem decA_enc (hc : Codec ok enc dec) (l : List α) : (∀ x ∈ l, ok x) → ∀ (p r : List UInt8) (acc : List α), decA dec (p ++ (catE enc l ++ r)) l.length p.length acc = (acc ++ l, p.length + (catE enc l).length, 0) := by
  induction l with
  | nil => intro _ p r acc; simp [decA, catE_nil]
  | cons x l ih =>
    intro hok p r acc
    rw [List.length_cons, decA, List.drop_left, catE_cons, List.append_assoc, hc.rt x (hok x (by simp)), if_neg (by exact fun e => e rfl)]
    show decA dec (p ++ (enc x ++ (catE enc l ++ r))) l.length (p.length + (enc x).length) (acc ++ [x]) = _
    have h := ih (fun y hy => hok y (by simp [hy])) (p ++ enc x) r (acc ++ [x])
    rw [List.append_assoc, List.length_append] at h
    rw [h, List.length_append]
    simp [Nat.add_assoc]
theorem decL_enc (hc : Codec ok enc dec) (l : List α) (hok : ∀ x ∈ l, ok x) (hl : l.length < 9223372036854775808) (r : List UInt8) : decL dec (encL enc l ++ r) = (l, (encL enc l).length, 0) := by
  have hge : l.length ≤ (catE enc l).length := by
    clear hok hl
    induction l with
    | nil => exact Nat.zero_le _
    | cons x l ih => rw [catE_cons, List.length_append, List.length_cons]; have := hc.pos x; omega
  unfold decL
  have h : cntP (encL enc l ++ r) 1 = ((l.length : Int), (encI l.length).length, 0) := by
    unfold encL
    rw [List.append_assoc]
    exact cntP_enc l.length hl _ (by rw [List.length_append]; omega)
  rw [h, if_neg (by exact fun e => e rfl)]
  show decA dec (encL enc l ++ r) (l.length : Int).toNat (encI l.length).length [] = _
  unfold encL
  rw [Int.toNat_natCast, List.append_assoc, decA_enc hc l hok, List.length_append, List.nil_append]
theorem decA_ok (hc : Codec ok enc dec) (b : List UInt8) (n : Nat) : ∀ (pos : Nat) (acc l : List α) (u : Nat), pos ≤ b.length → decA dec b n pos acc = (l, u, 0) →
    ∃ l', l = acc ++ l' ∧ l'.length = n ∧ b.drop pos = catE enc l' ++ b.drop u ∧ u = pos + (catE enc l').length ∧ u ≤ b.length ∧ ∀ x ∈ l', ok x := by
  induction n with
  | zero =>
    intro pos acc l u hp h
    simp only [decA, Prod.mk.injEq, and_true] at h
    obtain ⟨rfl, rfl⟩ := h
    exact ⟨[], by simp, rfl, by simp [catE_nil], by simp [catE_nil], hp, by simp⟩
  | succ n ih =>
    intro pos acc l u hp h
    rw [decA] at h
    split at h
    · rename_i he
      simp only [Prod.mk.injEq] at h
      exact absurd h.2.2 he
    · rename_i he
      have h0 := Decidable.of_not_not he
      obtain ⟨k1, k2, k3⟩ := hc.back (b.drop pos) (dec (b.drop pos)).1 (dec (b.drop pos)).2.1 (by rw [← h0])
      obtain ⟨u1, u2, u3⟩ := hc.used (b.drop pos) h0
      rw [List.length_drop] at u1
      obtain ⟨l', e1, e2, e3, e4, e5, e6⟩ := ih _ _ _ _ (by omega) h
      generalize dec (b.drop pos) = y at *
      refine ⟨y.1 :: l', by rw [e1]; simp, by rw [List.length_cons, e2], ?_, ?_, e5, ?_⟩
      · rw [catE_cons, List.append_assoc, ← e3, ← List.drop_drop]
        exact k1
      · rw [catE_cons, List.length_append, ← k2]
        omega
      · intro x hx
        rcases List.mem_cons.1 hx with rfl | hx
        · exact k3
        · exact e6 x hx
theorem decL_ok (hc : Codec ok enc dec) (b : List UInt8) (l : List α) (u : Nat) (h : decL dec b = (l, u, 0)) : b = encL enc l ++ b.drop u ∧ u = (encL enc l).length ∧ u ≤ b.length ∧ ∀ x ∈ l, ok x := by
  unfold decL at h
  split at h
  · rename_i he
    simp only [Prod.mk.injEq] at h
    exact absurd h.2.2 he
  · rename_i he
    obtain ⟨k1, k2, k3, _⟩ := cntP_ok b (Decidable.of_not_not he)
    obtain ⟨d1, d2, d3, d4⟩ := decI_ok b _ _ k1
    obtain ⟨l', e1, e2, e3, e4, e5, e6⟩ := decA_ok hc b _ _ _ _ _ (by omega) h
    rw [List.nil_append] at e1
    subst e1
    generalize cntP b 1 = c at *
    have hi : encI (l.length : Int) = encI c.1 := by rw [e2, Int.toNat_of_nonneg k2]
    refine ⟨?_, ?_, e5, e6⟩
    · unfold encL
      rw [hi, List.append_assoc, ← e3]
      exact d1
    · unfold encL
      rw [hi, List.length_append, ← d2, e4]
theorem decA_err (dec : List UInt8 → α × Nat × Int) (b : List UInt8) (n : Nat) : ∀ (pos : Nat) (acc : List α), (decA dec b n pos acc).2.2 ≠ 0 → (decA dec b n pos acc).1 = [] ∧ (decA dec b n pos acc).2.1 = 0 := by
  induction n with
  | zero => intro pos acc h; exact absurd rfl h
  | succ n ih =>
    intro pos acc h
    rw [decA] at h ⊢
    split
    · exact ⟨rfl, rfl⟩
    · rename_i he
      rw [if_neg he] at h
      exact ih _ _ h
theorem decL_err (dec : List UInt8 → α × Nat × Int) (b : List UInt8) (h : (decL dec b).2.2 ≠ 0) : (decL dec b).1 = [] ∧ (decL dec b).2.1 = 0 := by
  unfold decL at h ⊢
  split
  · exact ⟨rfl, rfl⟩
  · rename_i he
    rw [if_neg he] at h
    exact decA_err dec b _ _ _ h
end
/-- the numbers, the texts -/
def encIs (l : List Int) : List UInt8 := encL encI l
def decIs (b : List UInt8) : List Int × Nat × Int := decL decI b
def encSs (l : List (List UInt8)) : List UInt8 := encL encS l
def decSs (b : List UInt8) : List (List UInt8) × Nat × Int := decL decS b
theorem encIs_pos (l : List Int) : 1 ≤ (encIs l).length := by unfold encIs encL; rw [List.length_append]; have := encI_pos (l.length : Int); omega
theorem encSs_pos (l : List (List UInt8)) : 1 ≤ (encSs l).length := by unfold encSs encL; rw [List.length_append]; have := encI_pos (l.length : Int); omega
theorem codecIs : Codec (fun l => (∀ x ∈ l, okI x) ∧ l.length < 9223372036854775808) encIs decIs := ⟨fun x h r => decL_enc codecI x h.1 h.2 r, fun b x u h => by
  have := decL_ok codecI b x u h
  refine ⟨this.1, this.2.1, this.2.2.2, ?_⟩
  unfold decIs decL at h
  split at h
  · rename_i he
    simp only [Prod.mk.injEq] at h
    exact absurd h.2.2 he
  · rename_i he
    obtain ⟨k1, k2, k3, _⟩ := cntP_ok b (Decidable.of_not_not he)
    obtain ⟨d1, d2, d3, d4⟩ := decI_ok b _ _ k1
    obtain ⟨l', e1, e2, _⟩ := decA_ok codecI b _ _ _ _ _ (by omega) h
    rw [List.nil_append] at e1
    subst e1
    omega, encIs_pos⟩
theorem codecSs : Codec (fun l => (∀ x ∈ l, okS x) ∧ l.length < 9223372036854775808) encSs decSs := ⟨fun x h r => decL_enc codecS x h.1 h.2 r, fun b x u h => by
  have := decL_ok codecS b x u h
  refine ⟨this.1, this.2.1, this.2.2.2, ?_⟩
  unfold decSs decL at h
  split at h
  · rename_i he
    simp only [Prod.mk.injEq] at h
    exact absurd h.2.2 he
  · rename_i he
    obtain ⟨k1, k2, k3, _⟩ := cntP_ok b (Decidable.of_not_not he)
    obtain ⟨d1, d2, d3, d4⟩ := decI_ok b _ _ k1
    obtain ⟨l', e1, e2, _⟩ := decA_ok codecS b _ _ _ _ _ (by omega) h
    rw [List.nil_append] at e1
    subst e1
    omega, encSs_pos⟩
end Go.Proofs.YtbpjdfnnlmblaaaGreatDoor
/- A number is read: the walk. -/
namespace Go.Proofs.YtbpjdfnnlmblaaaGreatDoor
open Go.RowKit
set_option linter.unusedSimpArgs false
set_option linter.unusedVariables false
def numV (x : Int × Nat × Int) : Value := .tuple #[.int .i64 x.1, .int .i64 x.2.1, .int .i64 x.2.2]
/-- how many bytes follow the first one, and what they stand for -/
def kOf (h : UInt8) : Nat := (h ^^^ flipOf h).toNat - 128
def vOf (h : UInt8) (r : List UInt8) : Nat := beVal ((r.take (kOf h)).map (· ^^^ flipOf h))
theorem decI_parts (h : UInt8) (r : List UInt8) : (8 < kOf h ∧ decI (h :: r) = (0, 0, 6)) ∨ (kOf h ≤ 8 ∧ r.length < kOf h ∧ decI (h :: r) = (0, 0, 5)) ∨
    (kOf h ≤ 8 ∧ kOf h ≤ r.length ∧ 0 < kOf h ∧ byteAt r 0 ^^^ flipOf h = 0 ∧ decI (h :: r) = (0, 0, 6)) ∨
    (kOf h ≤ 8 ∧ kOf h ≤ r.length ∧ (kOf h = 0 ∨ 0 < kOf h ∧ byteAt r 0 ^^^ flipOf h ≠ 0) ∧ ((9223372036854775808 ≤ vOf h r ∧ decI (h :: r) = (0, 0, 6)) ∨ (vOf h r < 9223372036854775808 ∧ decI (h :: r) = (if h.toNat < 128 then -1 - (vOf h r : Int) else (vOf h r : Int), kOf h + 1, 0)))) := by
  rw [decI]
  by_cases h1 : 8 < kOf h
  · exact .inl ⟨h1, if_pos h1⟩
  · rw [if_neg (show ¬ 8 < (h ^^^ flipOf h).toNat - 128 from h1)]
    by_cases h2 : r.length < kOf h
    · exact .inr (.inl ⟨by omega, h2, if_pos h2⟩)
    · rw [if_neg (show ¬ r.length < (h ^^^ flipOf h).toNat - 128 from h2)]
      by_cases h3 : 0 < kOf h ∧ byteAt r 0 ^^^ flipOf h = 0
      · exact .inr (.inr (.inl ⟨by omega, by omega, h3.1, h3.2, if_pos h3⟩))
      · rw [if_neg (show ¬ (0 < (h ^^^ flipOf h).toNat - 128 ∧ byteAt r 0 ^^^ flipOf h = 0) from h3)]
        refine .inr (.inr (.inr ⟨by omega, by omega, ?_, ?_⟩))
        · rcases Nat.eq_zero_or_pos (kOf h) with h0 | h0
          · exact .inl h0
          · exact .inr ⟨h0, fun e => h3 ⟨h0, e⟩⟩
        · by_cases h4 : 9223372036854775808 ≤ vOf h r
          · exact .inl ⟨h4, if_pos h4⟩
          · exact .inr ⟨by omega, if_neg h4⟩
theorem vOf_lt (h : UInt8) (r : List UInt8) (hk : kOf h ≤ 8) : vOf h r < 18446744073709551616 := by
  refine Nat.lt_of_lt_of_le (beVal_lt _) ?_
  have : ((r.take (kOf h)).map (· ^^^ flipOf h)).length ≤ 8 := by rw [List.length_map, List.length_take]; omega
  exact Nat.le_trans (Nat.pow_le_pow_right (by decide) this) (by decide)
theorem xor64 (m : Nat) (h : m < 18446744073709551616) : m ^^^ (2 ^ 64 - 1) = 18446744073709551615 - m := by
  have h1 := Lib.xor_ones64 m h
  rw [Nat.xor_comm] at h1
  omega
theorem xor_ones (m : Nat) (h : m < 9223372036854775808) : wrap64 (bits .xor .u64 IntKind.u64.max (m : Int)) = -1 - (m : Int) := by
  have e2 : IntKind.u64.max = ((2 ^ 64 - 1 : Nat) : Int) := by decide
  rw [e2, bits_xor_u64_nat _ _ (by decide) (by omega), Nat.xor_comm, xor64 m (by omega)]
  unfold wrap64
  omega
attribute [local irreducible] Calls vOf
set_option maxRecDepth 100000 in
set_option maxHeartbeats 4000000 in
theorem getInt_c (v : Value) (b : List UInt8) (w : World) (hv : RdE eB w v b) :
    Calls Tryz.prog 108 #[v] w fun e w' => e = .returned (numV (decI b)) ∧ w' = w := by
  have HV := Lib.hid hv
  obtain ⟨a, cap, rfl, hcap, hcm, _⟩ := hv
  unfold maxLen at hcm
  cases b with
  | nil =>
    go_enter Tryz.func108, Tryz.ntmps108
    go_wp2
    refine ⟨rfl, numV (decI []), by kernel_rfl, rfl, rfl⟩
  | cons h r =>
    obtain ⟨bb, off, rfl, hbl, hrow⟩ := RdB_cells HV.out (by simp)
    have HROW := Lib.hid hrow
    clear hrow
    have hc0 := HROW.out 0 (by simp)
    have e0 : byteAt (h :: r) 0 = h := rfl
    rw [e0, Nat.add_zero] at hc0
    have HGE := Lib.hid (flip_ge h)
    have HP := Lib.hid (decI_parts h r)
    have HF := Lib.hid (flip_cases h)
    obtain ⟨F, hF⟩ : ∃ F, F = flipOf h := ⟨_, rfl⟩
    have HFF := Lib.hid hF
    clear hF e0
    go_enter Tryz.func108, Tryz.ntmps108
    go_upto_if 16 with fail
    go_cut [5, 16] from 17 to 17 (fun f _ wc => f = .int .u8 (B8 F) ∧ wc = w)
    case first =>
      rcases HF.out with ⟨hc1, hc2⟩ | ⟨hc1, hc2⟩
      · have i1 : B8 h < 128 := by unfold B8; omega
        have H2 : Hid (F = 255) := Lib.hid (by rw [HFF.out, hc2])
        clear hc1 hc2
        go_wp2
        all_goals go_meet
        case rel => exact ⟨by rw [H2.out]; rfl, rfl⟩
      · have i1 : ¬ B8 h < 128 := by unfold B8; omega
        have H2 : Hid (F = 0) := Lib.hid (by rw [HFF.out, hc2])
        clear hc1 hc2
        go_wp2
        all_goals go_meet
        case rel => exact ⟨by rw [H2.out]; rfl, rfl⟩
    case rest =>
      obtain ⟨rfl, hwc⟩ := hcut
      rw [hwc]
      clear hwc
      have hkk : B8 (h ^^^ F) = 128 + (kOf h : Int) := by rw [HFF.out]; unfold kOf B8; have := HGE.out; omega
      have hk0 : (kOf h : Int) ≤ 127 := by have h1 := (h ^^^ flipOf h).toNat_lt; unfold kOf; omega
      have HPX := Lib.hid HP.out
      have HFC := Lib.hid HF.out
      generalize hK : kOf h = K at hkk hk0 HPX
      have HKK := Lib.hid hK
      clear hK
      have e1 : 128 + (K : Int) - 128 = K := by omega
      rcases HPX.out with ⟨p1, p2⟩ | ⟨p1, p2, p3⟩ | ⟨p1, p2, p3, p4, p5⟩ | ⟨p1, p2, p3, p4⟩
      · have i1 : (8 : Int) < K := by omega
        have HR := Lib.hid p2
        clear p1 p2 HPX
        go_wp2
        go_ret3
        exact ⟨by rw [HR.out]; rfl, rfl⟩
      · have i1 : (K : Int) ≤ 8 := by omega
        have i2 : (r.length : Int) + 1 ≤ K := by omega
        have HR := Lib.hid p3
        clear p1 p2 p3 HPX
        go_wp2
        go_ret3
        exact ⟨by rw [HR.out]; rfl, rfl⟩
      · have i1 : (K : Int) ≤ 8 := by omega
        have i2 : ¬ (r.length : Int) + 1 ≤ K := by omega
        have i3 : (0 : Int) < K := by omega
        have i4 : (1 : Int) < r.length + 1 := by omega
        have i5 : 1 < r.length + 1 := by omega
        have HR := Lib.hid p5
        have hc1 := HROW.out 1 (by simp; omega)
        have e2 : byteAt (h :: r) 1 = byteAt r 0 := rfl
        rw [e2] at hc1
        rw [← HFF.out] at p4
        have e3 : bits .xor .u8 (B8 (byteAt r 0)) (B8 F) = 0 := by rw [u8_xor_u8, p4]; rfl
        clear p1 p2 p3 p4 p5 HPX e2
        go_wp2
        go_ret3
        exact ⟨by rw [HR.out]; rfl, rfl⟩
      · have i1 : (K : Int) ≤ 8 := by omega
        have i2 : ¬ (r.length : Int) + 1 ≤ K := by omega
        have HKL : Hid (K ≤ r.length) := Lib.hid p2
        have HK8 : Hid (K ≤ 8) := Lib.hid p1
        have HR := Lib.hid p4
        go_upto_region 11 with fail
        go_cut [32] from 33 to 42 (fun c wc => c = .bool false ∧ wc = w)
        case first =>
          rcases p3 with h0 | ⟨h1, h2⟩
          · have i3 : ¬ (0 : Int) < K := by omega
            clear p1 p2 p4 HPX h0
            go_wp2
            go_meet
            case rel => exact ⟨rfl, rfl⟩
          · have i3 : (0 : Int) < K := by omega
            have i4 : (1 : Int) < r.length + 1 := by omega
            have i5 : 1 < r.length + 1 := by omega
            have hc1 := HROW.out 1 (by simp; omega)
            have e2 : byteAt (h :: r) 1 = byteAt r 0 := rfl
            rw [e2] at hc1
            rw [← HFF.out] at h2
            have e4 : ¬ B8 (byteAt r 0 ^^^ F) = 0 := fun e => h2 (u8_inj e)
            have e5 : (B8 (byteAt r 0 ^^^ F) == 0) = false := by simpa using e4
            clear p1 p2 p4 HPX e2 h1 h2
            go_wp2
            go_meet
            case rel => exact ⟨rfl, rfl⟩
        case rest =>
          obtain ⟨rfl, hwc⟩ := hcut
          rw [hwc]
          clear hwc p3 p4 HPX
          have i3 : (K : Int) + 1 ≤ cap := by simp at hcap; omega
          by_cases hcap1 : cap = 1
          · subst hcap1
            have h0 : K = 0 := by omega
            clear h0
            go_wp2
            go_loopw [48, 7] (fun i v wr => ∃ (j m : Nat), j ≤ K ∧ i = .int .i64 j ∧ v = .int .u64 m ∧ Hid (m = beVal ((r.take j).map (· ^^^ F))) ∧ wr = w) (fun i _ _ => K - (intOf i).toNat)
            case atStart => exact ⟨0, 0, Nat.zero_le _, rfl, rfl, Lib.hid (by simp [beVal]), rfl⟩
            case round =>
              obtain ⟨j, m, hj, rfl, rfl, hm, rfl⟩ := hrel
              have hk1 : K ≤ 0 := by omega
              have HM := hm
              have b1 : (if 9223372036854775808 ≤ vOf h r then (1 : Nat) else 0) = (if 9223372036854775808 ≤ vOf h r then 1 else 0) := rfl
              clear b1
              have hjk : j = K := by omega
              subst hjk
              have HV2 : Hid (m = vOf h r) := Lib.hid (by rw [HM.out]; unfold vOf; rw [HKK.out, HFF.out])
              have hml := vOf_lt h r (by rw [HKK.out]; exact HK8.out)
              rw [← HV2.out] at hml
              have j1 : ¬ (j : Int) < j := by omega
              rcases HR.out with ⟨q1, q2⟩ | ⟨q1, q2⟩
              · have HQ := Lib.hid q2
                rw [← HV2.out] at q1
                have j2 : (0 : Int) < (m : Int) / 9223372036854775808 := by omega
                obtain ⟨mi, hmi⟩ : ∃ mi : Int, mi = (m : Int) := ⟨_, rfl⟩
                rw [← hmi] at j2 ⊢
                clear q1 q2 hmi hm
                go_wp2
                go_ret3
                exact ⟨by rw [HQ.out]; rfl, rfl⟩
              · have HQ := Lib.hid q2
                rw [← HV2.out] at q1
                have j2 : ¬ (0 : Int) < (m : Int) / 9223372036854775808 := by omega
                have j3 : (m : Int) < 9223372036854775808 := by omega
                have j4 : 0 ≤ (m : Int) := by omega
                obtain ⟨mi, hmi⟩ : ∃ mi : Int, mi = (m : Int) := ⟨_, rfl⟩
                rw [← hmi] at j2 j3 j4 ⊢
                have HMI := Lib.hid hmi
                have j5 : IntKind.i64.wrap mi = mi := by rw [IntKind.wrap_i64]; omega
                have J6 : Hid (wrap64 (bits .xor .u64 IntKind.u64.max mi) = -1 - mi) := Lib.hid (by rw [hmi]; exact xor_ones m (by omega))
                clear q1 q2 hmi hm
                rcases HFC.out with ⟨hc1, hc2⟩ | ⟨hc1, hc2⟩
                · have k1 : (0 : Int) < B8 F := by rw [HFF.out, hc2]; decide
                  have HC1 := Lib.hid hc1
                  clear hc1 hc2
                  go_wp2
                  rw [J6.out]
                  go_ret3
                  exact ⟨by rw [HQ.out, if_pos HC1.out, ← HV2.out, ← HMI.out]; rfl, rfl⟩
                · have k1 : ¬ (0 : Int) < B8 F := by rw [HFF.out, hc2]; decide
                  have HC1 := Lib.hid hc1
                  clear hc1 hc2
                  go_wp2
                  go_ret3
                  exact ⟨by rw [HQ.out, if_neg HC1.out, ← HV2.out, ← HMI.out]; rfl, rfl⟩
          · have yd : ¬ (cap : Int) = 1 := by omega
            go_wp2
            go_loopw [48, 7] (fun i v wr => ∃ (j m : Nat), j ≤ K ∧ i = .int .i64 j ∧ v = .int .u64 m ∧ Hid (m = beVal ((r.take j).map (· ^^^ F))) ∧ wr = w) (fun i _ _ => K - (intOf i).toNat)
            case atStart => exact ⟨0, 0, Nat.zero_le _, rfl, rfl, Lib.hid (by simp [beVal]), rfl⟩
            case round =>
              obtain ⟨j, m, hj, rfl, rfl, hm, rfl⟩ := hrel
              by_cases hlt : j < K
              · have j1 : (j : Int) < K := by omega
                have hcj := HROW.out (1 + j) (by have := HKL.out; simp; omega)
                have e2 : byteAt (h :: r) (1 + j) = byteAt r j := by rw [Nat.add_comm]; rfl
                rw [e2, ← Nat.add_assoc] at hcj
                have hm56 := beVal_take_lt r F j (by have := HK8.out; omega)
                have HST := Lib.hid (beVal_step r F j (by have := HKL.out; omega))
                rw [← hm.out] at hm56
                have HM := hm
                obtain ⟨mi, hmi⟩ : ∃ mi : Int, mi = (m : Int) := ⟨_, rfl⟩
                have hor := or_byte m (byteAt r j ^^^ F) hm56
                rw [← hmi] at hor ⊢
                have m1 : mi < 72057594037927936 := by omega
                have m2 : 0 ≤ mi := by omega
                have hwb : IntKind.u64.wrap (B8 (byteAt r j ^^^ F)) = B8 (byteAt r j ^^^ F) := by rw [IntKind.wrap_u64]; have := u8_lo (byteAt r j ^^^ F); have := u8_hi (byteAt r j ^^^ F); omega
                have HOR := Lib.hid hor
                clear hor
                have HLT := Lib.hid hlt
                clear hm hm56 e2 hmi hlt
                go_wp2
                go_roundw
                case rel => exact ⟨j + 1, 256 * m + (byteAt r j ^^^ F).toNat, HLT.out, by go_num, by first | exact congrArg (Value.int .u64) HOR.out | (rw [hwb]; exact congrArg (Value.int .u64) HOR.out), Lib.hid (by rw [HST.out, ← HM.out]), by first | exact rfl | exact trivial⟩
                case measure => have := HLT.out; simp [intOf]; omega
              · have HNL := Lib.hid hlt
                clear hlt
                have HM := hm
                have b1 : (if 9223372036854775808 ≤ vOf h r then (1 : Nat) else 0) = (if 9223372036854775808 ≤ vOf h r then 1 else 0) := rfl
                clear b1
                have hjk : j = K := by have := HNL.out; omega
                subst hjk
                have HV2 : Hid (m = vOf h r) := Lib.hid (by rw [HM.out]; unfold vOf; rw [HKK.out, HFF.out])
                have hml := vOf_lt h r (by rw [HKK.out]; exact HK8.out)
                rw [← HV2.out] at hml
                have j1 : ¬ (j : Int) < j := by omega
                rcases HR.out with ⟨q1, q2⟩ | ⟨q1, q2⟩
                · have HQ := Lib.hid q2
                  rw [← HV2.out] at q1
                  have j2 : (0 : Int) < (m : Int) / 9223372036854775808 := by omega
                  obtain ⟨mi, hmi⟩ : ∃ mi : Int, mi = (m : Int) := ⟨_, rfl⟩
                  rw [← hmi] at j2 ⊢
                  clear q1 q2 hmi hm
                  go_wp2
                  go_ret3
                  exact ⟨by rw [HQ.out]; rfl, rfl⟩
                · have HQ := Lib.hid q2
                  rw [← HV2.out] at q1
                  have j2 : ¬ (0 : Int) < (m : Int) / 9223372036854775808 := by omega
                  have j3 : (m : Int) < 9223372036854775808 := by omega
                  have j4 : 0 ≤ (m : Int) := by omega
                  obtain ⟨mi, hmi⟩ : ∃ mi : Int, mi = (m : Int) := ⟨_, rfl⟩
                  rw [← hmi] at j2 j3 j4 ⊢
                  have HMI := Lib.hid hmi
                  have j5 : IntKind.i64.wrap mi = mi := by rw [IntKind.wrap_i64]; omega
                  have J6 : Hid (wrap64 (bits .xor .u64 IntKind.u64.max mi) = -1 - mi) := Lib.hid (by rw [hmi]; exact xor_ones m (by omega))
                  clear q1 q2 hmi hm
                  rcases HFC.out with ⟨hc1, hc2⟩ | ⟨hc1, hc2⟩
                  · have k1 : (0 : Int) < B8 F := by rw [HFF.out, hc2]; decide
                    have HC1 := Lib.hid hc1
                    clear hc1 hc2
                    go_wp2
                    rw [J6.out]
                    go_ret3
                    exact ⟨by rw [HQ.out, if_pos HC1.out, ← HV2.out, ← HMI.out]; rfl, rfl⟩
                  · have k1 : ¬ (0 : Int) < B8 F := by rw [HFF.out, hc2]; decide
                    have HC1 := Lib.hid hc1
                    clear hc1 hc2
                    go_wp2
                    go_ret3
                    exact ⟨by rw [HQ.out, if_neg HC1.out, ← HV2.out, ← HMI.out]; rfl, rfl⟩
end Go.Proofs.YtbpjdfnnlmblaaaGreatDoor
/- A part of bytes; a count and a text are read: the walks. -/
namespace Go.Proofs.YtbpjdfnnlmblaaaGreatDoor
open Go.RowKit
set_option linter.unusedSimpArgs false
set_option linter.unusedVariables false
theorem size_b (w : World) : (sizeOf (Tryz.prog.elem 50)).run Tryz.prog w = .ok 1 w := by kernel_rfl
theorem under_b : Tryz.prog.underlying 50 = some (.slice (Tryz.prog.elem 50)) := by kernel_rfl
theorem sliced_b {w : World} {a : Option Addr} {cap : Nat} {b : List UInt8} (hv : RdE eB w (.slice a b.length cap) b) (i j : Nat) (hij : i ≤ j) (hj : j ≤ b.length) :
    RdE eB w (sliced a i j cap 1) ((b.drop i).take (j - i)) := by
  obtain ⟨a', cap', e, h1, h2, h3⟩ := hv
  cases e
  have hl : ((b.drop i).take (j - i)).length = j - i := by rw [List.length_take, List.length_drop]; omega
  refine ⟨_, cap - i, by rw [hl]; rfl, by rw [hl]; omega, by omega, fun h0 => ?_⟩
  rw [hl] at h0
  obtain ⟨bb, off, rfl, hlt, hc⟩ := h3 (by omega)
  have hne : ¬ cap = i := by omega
  rw [if_neg hne]
  have hadd : (⟨bb, off, none⟩ : Addr).add (i * 1) = ⟨bb, off + i, none⟩ := by unfold Addr.add; simp
  refine ⟨bb, off + i, by rw [Option.map_some, hadd], hlt, fun k u hu => ?_⟩
  rw [flat_b] at hu
  have hk : k < j - i := by have := (List.getElem?_eq_some_iff.1 hu).1; rw [bcs_len, hl] at this; exact this
  have := hc (i + k) u (by
    rw [flat_b, ← hu]
    unfold bcs
    rw [List.getElem?_map, List.getElem?_map, List.getElem?_take, if_pos hk, List.getElem?_drop])
  rwa [← Nat.add_assoc] at this
theorem slice_lh {w : World} {v : Value} {b : List UInt8} (hv : RdE eB w v b) (i j : Nat) (hij : i ≤ j) (hj : j ≤ b.length) :
    ∃ v', (Instr.slice 50 v (some (.int .i64 i)) (some (.int .i64 j)) none).run Tryz.prog w = .ok v' w ∧ RdE eB w v' ((b.drop i).take (j - i)) := by
  have hv2 := hv
  obtain ⟨a, cap, rfl, h1, h2, h3⟩ := hv
  refine ⟨_, ?_, sliced_b hv2 i j hij hj⟩
  rw [run_slice_lh w _ a _ cap under_b .i64 .i64 _ _ (by omega) (by omega) (by omega), size_b]
  simp [Result.andThen]
theorem slice_l {w : World} {v : Value} {b : List UInt8} (hv : RdE eB w v b) (i : Nat) (hi : i ≤ b.length) :
    ∃ v', (Instr.slice 50 v (some (.int .i64 i)) none none).run Tryz.prog w = .ok v' w ∧ RdE eB w v' (b.drop i) := by
  have hv2 := hv
  obtain ⟨a, cap, rfl, h1, h2, h3⟩ := hv
  have h := sliced_b hv2 i b.length hi (Nat.le_refl _)
  rw [List.take_of_length_le (by rw [List.length_drop]; exact Nat.le_refl _)] at h
  refine ⟨_, ?_, h⟩
  rw [run_slice_l w _ a _ cap under_b .i64 _ (by omega) (by omega), size_b]
  simp [Result.andThen]
theorem slice_h {w : World} {v : Value} {b : List UInt8} (hv : RdE eB w v b) (j : Nat) (hj : j ≤ b.length) :
    ∃ v', (Instr.slice 50 v none (some (.int .i64 j)) none).run Tryz.prog w = .ok v' w ∧ RdE eB w v' (b.take j) := by
  have hv2 := hv
  obtain ⟨a, cap, rfl, h1, h2, h3⟩ := hv
  have h := sliced_b hv2 0 j (Nat.zero_le _) hj
  rw [List.drop_zero, Nat.sub_zero] at h
  refine ⟨_, ?_, h⟩
  rw [run_slice_h w _ a _ cap under_b .i64 _ (by omega) (by omega), size_b]
  simp [Result.andThen]
theorem len_b {w : World} {v : Value} {b : List UInt8} (hv : RdE eB w v b) (T : TypeId) : (Builtin.len_ #[50] T #[v]).run Tryz.prog w = .ok (.int .i64 b.length) w := by
  obtain ⟨a, cap, rfl, h1, h2, h3⟩ := hv
  kernel_rfl
attribute [local irreducible] Calls
set_option maxRecDepth 100000 in
set_option maxHeartbeats 4000000 in
theorem count_c (v : Value) (b : List UInt8) (w : World) (hv : RdE eB w v b) :
    Calls Tryz.prog 90 #[v, .int .i64 1] w fun e w' => e = .returned (numV (cntP b 1)) ∧ w' = w := by
  have HG := Lib.hid (getInt_c v b w hv)
  have hlen := hv.len
  unfold maxLen at hlen
  have HU := Lib.hid (decI_used b)
  have HP := Lib.hid (cntP_parts b 1)
  have HZ := Lib.hid (decI_err b)
  obtain ⟨a, cap, rfl, hcap, hcm, _⟩ := hv
  generalize decI b = d at HG HU HP HZ
  obtain ⟨n, u, er⟩ := d
  simp only at HP HU HZ
  rcases HP.out with ⟨h1, h2⟩ | ⟨h1, h2, h3⟩ | ⟨h1, h2, h3, h4⟩ | ⟨h1, h2, h3, h4⟩
  · have HR := Lib.hid h2
    have HE := Lib.hid (HZ.out h1)
    obtain ⟨rfl, rfl⟩ := HE.out
    clear h2 HP HE HZ
    go_enter Tryz.func90, Tryz.ntmps90
    go_wp2_with (go_at_call 108; refine HG.out.mono ?_; rintro e w1 ⟨rfl, hw1⟩; rw [hw1]; clear hw1; simp only [numV])
    go_ret3
    exact ⟨by rw [HR.out]; rfl, rfl⟩
  · subst h1
    have HR := Lib.hid h3
    clear h3 HP HZ
    go_enter Tryz.func90, Tryz.ntmps90
    go_wp2_with (go_at_call 108; refine HG.out.mono ?_; rintro e w1 ⟨rfl, hw1⟩; rw [hw1]; clear hw1; simp only [numV])
    go_ret3
    exact ⟨by rw [HR.out]; rfl, rfl⟩
  · subst h1
    have HR := Lib.hid h4
    have hu := (HU.out rfl).1
    have hu' : (u : Int) ≤ b.length := by omega
    have i3 : ¬ n ≤ (b.length : Int) - u := by rw [Nat.div_one] at h3; omega
    clear h3 h4 HP hu HZ
    go_enter Tryz.func90, Tryz.ntmps90
    go_wp2_with (go_at_call 108; refine HG.out.mono ?_; rintro e w1 ⟨rfl, hw1⟩; rw [hw1]; clear hw1; simp only [numV])
    go_ret3
    exact ⟨by rw [HR.out]; rfl, rfl⟩
  · subst h1
    have HR := Lib.hid h4
    have hu := (HU.out rfl).1
    have hu' : (u : Int) ≤ b.length := by omega
    have i3 : n ≤ (b.length : Int) - u := by rw [Nat.div_one] at h3; omega
    clear h3 h4 HP hu HZ
    go_enter Tryz.func90, Tryz.ntmps90
    go_wp2_with (go_at_call 108; refine HG.out.mono ?_; rintro e w1 ⟨rfl, hw1⟩; rw [hw1]; clear hw1; simp only [numV])
    go_ret3
    exact ⟨by rw [HR.out]; rfl, rfl⟩
/-- the answer of GetBytes -/
def strV (x : List UInt8 × Nat × Int) : Value := .tuple #[.string ⟨x.1.toArray⟩, .int .i64 x.2.1, .int .i64 x.2.2]
theorem decS_parts (b : List UInt8) : ((cntP b 1).2.2 ≠ 0 ∧ decS b = ([], 0, (cntP b 1).2.2)) ∨ ((cntP b 1).2.2 = 0 ∧ decS b = ((b.drop (cntP b 1).2.1).take (cntP b 1).1.toNat, (cntP b 1).2.1 + (cntP b 1).1.toNat, 0)) := by
  unfold decS
  by_cases h : (cntP b 1).2.2 = 0
  · exact .inr ⟨h, if_neg (fun e => e h)⟩
  · exact .inl ⟨h, if_pos h⟩
set_option maxRecDepth 100000 in
set_option maxHeartbeats 4000000 in
theorem getBytes_c (v : Value) (b : List UInt8) (w : World) (hv : RdE eB w v b) :
    Calls Tryz.prog 81 #[v] w fun e w' => e = .returned (strV (decS b)) ∧ w' = w := by
  have HG := Lib.hid (count_c v b w hv)
  have hlen := hv.len
  unfold maxLen at hlen
  have HU := Lib.hid (cntP_ok b)
  have HP := Lib.hid (decS_parts b)
  have HV := Lib.hid hv
  generalize cntP b 1 = d at HG HU HP
  obtain ⟨n, u, er⟩ := d
  simp only at HP HU
  clear hv
  rcases HP.out with ⟨h1, h2⟩ | ⟨h1, h2⟩
  · have HR := Lib.hid h2
    clear h2 HP
    go_enter Tryz.func81, Tryz.ntmps81
    go_wp2_with (go_at_call 90; refine HG.out.mono ?_; rintro e w1 ⟨rfl, hw1⟩; rw [hw1]; clear hw1; simp only [numV])
    go_ret3
    exact ⟨by rw [HR.out]; rfl, rfl⟩
  · subst h1
    have HR := Lib.hid h2
    obtain ⟨_, k2, k3, _⟩ := HU.out rfl
    obtain ⟨m, rfl⟩ : ∃ m : Nat, n = (m : Int) := ⟨n.toNat, by omega⟩
    rw [Int.toNat_natCast] at HR k3
    obtain ⟨vs, hsl, hrs⟩ := slice_lh HV.out u (u + m) (by omega) k3
    rw [show u + m - u = m by omega] at hrs
    have hcv := conv_e hrs
    generalize (b.drop u).take m = t at HR hcv
    have ha : (u : Int) + (m : Int) ≤ b.length := by omega
    have hs := hsl
    rw [Int.natCast_add] at hs
    clear h2 HP k2 k3 hsl hrs
    go_enter Tryz.func81, Tryz.ntmps81
    go_wp2_with (go_at_call 90; refine HG.out.mono ?_; rintro e w1 ⟨rfl, hw1⟩; rw [hw1]; clear hw1; simp only [numV])
    go_ret3
    exact ⟨by rw [HR.out]; rfl, rfl⟩
end Go.Proofs.YtbpjdfnnlmblaaaGreatDoor
/- Rows of numbers and of texts. -/
namespace Go.Proofs.YtbpjdfnnlmblaaaGreatDoor
open Go.RowKit
set_option linter.unusedSimpArgs false
set_option linter.unusedVariables false
abbrev eI : El Int := ⟨3, 60, 1, fun n => [.int .i64 n]⟩
theorem eI_ok : eI.OK := ⟨Tryz.underlying60, by kernel_rfl, fun _ => rfl, fun x u hu => by simp at hu; rw [hu]; rfl, by decide⟩
end Go.Proofs.YtbpjdfnnlmblaaaGreatDoor
/- Rows of texts. -/
namespace Go.Proofs.YtbpjdfnnlmblaaaGreatDoor
open Go.RowKit
set_option linter.unusedSimpArgs false
set_option linter.unusedVariables false
abbrev eS : El (List UInt8) := ⟨9, 76, 1, fun x => [.string ⟨x.toArray⟩]⟩
theorem eS_ok : eS.OK := ⟨Tryz.underlying76, by kernel_rfl, fun _ => rfl, fun x u hu => by simp at hu; rw [hu]; rfl, by decide⟩
theorem flat_str (l : List (List UInt8)) : eS.flat l = l.map (fun x => Value.string ⟨x.toArray⟩) := by
  induction l with
  | nil => rfl
  | cons x l ih => rw [El.flat, ih]; rfl
theorem flat_int (l : List Int) : eI.flat l = l.map (Value.int .i64) := by
  induction l with
  | nil => rfl
  | cons x l ih => rw [El.flat, ih]; rfl
end Go.Proofs.YtbpjdfnnlmblaaaGreatDoor
/- Lists of numbers are read: the walk. -/
namespace Go.Proofs.YtbpjdfnnlmblaaaGreatDoor
open Go.RowKit
set_option linter.unusedSimpArgs false
set_option linter.unusedVariables false
attribute [local irreducible] Calls
set_option maxRecDepth 100000 in
set_option maxHeartbeats 4000000 in
/-- the next number of a reader: g0 holds the bytes, g1 the place -/
theorem next_c (v : Value) (b : List UInt8) (pos g0 g1 : Nat) (w : World) (hv : RdE eB w v b) (h0 : w.cell? ⟨g0, 0, none⟩ = some v) (h1 : w.heap[g1]? = some (.cells #[.int .i64 pos] 3 (0, 0))) (hp : pos ≤ b.length) :
    Calls Tryz.prog 121 #[.pointer (some ⟨g0, 0, none⟩), .pointer (some ⟨g1, 0, none⟩)] w fun e w' => e = .returned (.tuple #[.int .i64 (decI (b.drop pos)).1, .int .i64 ((pos + (decI (b.drop pos)).2.1 : Nat) : Int), .int .i64 (decI (b.drop pos)).2.2]) ∧
      ∃ n, w' = (w.setCell ⟨g1, 0, none⟩ (.int .i64 ((pos + (decI (b.drop pos)).2.1 : Nat) : Int))).drewN n := by
  obtain ⟨vs, hs, hrs⟩ := slice_l hv pos hp
  have HG := Lib.hid (getInt_c vs _ w hrs)
  have hlen := hv.len
  unfold maxLen at hlen
  have hu : pos + (decI (b.drop pos)).2.1 ≤ b.length := by
    by_cases h : (decI (b.drop pos)).2.2 = 0
    · have := (decI_used _ h).1
      rw [List.length_drop] at this
      omega
    · rw [(decI_err _ h).2]; exact hp
  have c1 : w.cell? ⟨g1, 0, none⟩ = some (.int .i64 pos) := cell_of_row _ _ _ _ _ _ h1
  have f1 := frozen_of_row _ _ 0 _ _ h1
  have HH1 := Lib.hid h1
  generalize decI (b.drop pos) = d at HG hu ⊢
  obtain ⟨n, u, er⟩ := d
  simp only at hu
  have hpi : (pos : Int) ≤ b.length := by omega
  have hui : (pos : Int) + (u : Int) ≤ b.length := by omega
  have hp0 : (0 : Int) ≤ pos := by omega
  have hu0 : (0 : Int) ≤ (pos : Int) + u := by omega
  have hli : (b.length : Int) ≤ 9223372036854775807 := by omega
  have c2 : (w.setCell ⟨g1, 0, none⟩ (.int .i64 ((pos : Int) + u))).cell? ⟨g1, 0, none⟩ = some (.int .i64 ((pos : Int) + u)) := by
    rw [setCell_rowC _ _ _ _ _ _ _ h1]
    exact cell_of_row _ _ _ _ _ _ (setRow_heap _ _ _ _ _ _ h1)
  clear hp hu hv hrs h1
  go_enter Tryz.func121, Tryz.ntmps121
  go_upto_region 3 with (go_at_call 108; refine HG.out.mono ?_; rintro e w1 ⟨rfl, hw1⟩; rw [hw1]; clear hw1; simp only [numV])
  try dsimp only [Act.put]
  refine all0 (by kernel_rfl) (by kernel_rfl) ?_
  repeat (go_big_quiet_step (fail))
  refine wpQuiet_nil ?_
  rintro _ ⟨nq, rfl⟩
  go_wp2
  go_ret3
  exact ⟨rfl, nq, rfl⟩
set_option maxRecDepth 100000 in
theorem reader_c (a : Option Addr) (n cap : Nat) (pos : Int) (w : World) :
    Calls Tryz.prog 106 #[.slice a n cap, .int .i64 pos] w fun e w' => e = .returned (.func (.func 121) #[] #[.pointer (some ⟨w.heap.size, 0, none⟩), .pointer (some ⟨w.heap.size + 1, 0, none⟩)]) ∧
      w' = (w.alloc (.cells #[.slice a n cap] 50)).alloc (.cells #[.int .i64 pos] 3) := by
  have hmf : ∀ (fn : Fn) (first cap : Array Value) (w : World), (Instr.makeFunc fn first cap).run Tryz.prog w = .ok (.func fn first cap) w := fun _ _ _ _ => rfl
  go_enter Tryz.func106, Tryz.ntmps106
  go_wp2
  go_ret
  exact ⟨rfl, rfl⟩
theorem cell_eq {w w' : World} {g : Nat} (h : w'.heap[g]? = w.heap[g]?) (o : Nat) : w'.cell? ⟨g, o, none⟩ = w.cell? ⟨g, o, none⟩ := by
  unfold World.cell?
  simp only [h]
/-- what lies in memory while numbers are read -/
structure GW (w : World) (v : Value) (pos : Nat) (out : Value) (acc : List Int) (wr : World) : Prop where
  c0 : wr.cell? ⟨w.heap.size, 0, none⟩ = some v
  c1 : wr.heap[w.heap.size + 1]? = some (.cells #[.int .i64 pos] 3 (0, 0))
  own : OwnE eI wr (w.heap.size + 2) out acc
  below : Below w.heap.size w wr
theorem GW.start (w : World) (v : Value) (pos : Nat) : GW w v pos (.slice none 0 0) [] ((w.alloc (.cells #[v] 50)).alloc (.cells #[.int .i64 pos] 3)) :=
  ⟨by rw [cell_of_row _ _ _ _ _ _ (show ((w.alloc (.cells #[v] 50)).alloc (.cells #[.int .i64 pos] 3)).heap[w.heap.size]? = some (.cells #[v] 50 (0, 0)) by rw [heap_past _ _ _ (by simp), heap_last _ _ _ rfl])]; rfl, heap_last _ _ _ (by simp), OwnE.nil _ _, ((Below.refl _ _).alloc (Nat.le_refl _) _).alloc (by simp) _⟩
theorem GW.next {w wr : World} {v out : Value} {pos : Nat} {acc : List Int} (h : GW w v pos out acc wr) (p2 n : Nat) : GW w v p2 out acc ((wr.setCell ⟨w.heap.size + 1, 0, none⟩ (.int .i64 p2)).drewN n) := by
  have e := setCell_rowC wr (w.heap.size + 1) 0 _ _ _ (Value.int .i64 p2) h.c1
  have hne := h.own.neOld (g := w.heap.size + 1) (by omega)
  refine ⟨?_, ?_, ?_, ?_⟩
  · refine (cell_eq ?_ 0).trans h.c0
    exact setCell_other (by omega)
  · show (wr.setCell ⟨w.heap.size + 1, 0, none⟩ (.int .i64 p2)).heap[w.heap.size + 1]? = _
    rw [e]
    exact setRow_heap _ _ _ _ _ _ h.c1
  · exact (h.own.setNe hne).on (below_drewN n (Below.refl _ _))
  · refine below_drewN n ?_
    rw [e]
    exact h.below.trans (below_row (by omega))
theorem GW.app {w wr w' : World} {v out out' : Value} {pos : Nat} {acc : List Int} (h : GW w v pos out acc wr) (x : Int) (ho : OwnE eI w' (w.heap.size + 2) out' (acc ++ [x]))
    (hg : (wr.alloc (.cells #[.int .i64 x] 3)).grownBy w' out.ownBlock) : GW w v pos out' (acc ++ [x]) w' := by
  have hA := ((Below.refl wr.heap.size wr).alloc (Nat.le_refl _) (.cells #[.int .i64 x] 3))
  have hb1 : (wr.alloc (.cells #[.int .i64 x] 3)).heap[w.heap.size + 1]? = wr.heap[w.heap.size + 1]? := hA.block _ (Array.getElem?_eq_some_iff.1 h.c1).1
  have hsz : w.heap.size + 1 < wr.heap.size := (Array.getElem?_eq_some_iff.1 h.c1).1
  have hb0 : (wr.alloc (.cells #[.int .i64 x] 3)).heap[w.heap.size]? = wr.heap[w.heap.size]? := hA.block _ (by omega)
  have hown := h.own.on hA
  have hk : ∀ k, k < w.heap.size + 2 → w'.heap[k]? = (wr.alloc (.cells #[.int .i64 x] 3)).heap[k]? := fun k hk => hg.block k (by simp; omega) (fun e => absurd e.symm (hown.neOld (by omega)))
  refine ⟨?_, ?_, ho, ?_⟩
  · refine (cell_eq ?_ 0).trans h.c0
    rw [hk _ (by omega), hb0]
  · rw [hk _ (by omega), hb1]; exact h.c1
  · have h2 : Below (w.heap.size + 2) (wr.alloc (.cells #[.int .i64 x] 3)) w' := (Below.refl _ _).grown hg (by simp; omega) (fun k hk2 => (hown.lt k hk2).1)
    exact (h.below.alloc (by omega) _).trans (h2.mono (by omega))
set_option maxRecDepth 100000 in
set_option maxHeartbeats 4000000 in
theorem getInts_c (v : Value) (b : List UInt8) (w : World) (hv : RdE eB w v b) (hl : b.length ≤ 900000) :
    Calls Tryz.prog 85 #[v] w fun e w' => ∃ v', e = .returned (.tuple #[v', .int .i64 (decIs b).2.1, .int .i64 (decIs b).2.2]) ∧ OwnE eI w' w.heap.size v' (decIs b).1 ∧ Below w.heap.size w w' := by
  have HG := Lib.hid (count_c v b w hv)
  have HL := Lib.hid hl
  have HU := Lib.hid (cntP_ok b)
  have HV := Lib.hid hv
  have HD : Hid (decIs b = decL decI b) := Lib.hid rfl
  unfold decL at HD
  generalize cntP b 1 = d at HG HU HD
  obtain ⟨n, u, er⟩ := d
  simp only at HU HD
  by_cases h1 : er = 0
  · subst h1
    obtain ⟨_, k2, k3, k4⟩ := HU.out rfl
    obtain ⟨m, rfl⟩ : ∃ m : Nat, n = (m : Int) := ⟨n.toNat, by omega⟩
    rw [Int.toNat_natCast] at HD k3
    rw [if_neg (fun e => e rfl)] at HD
    have hmi : (m : Int) ≤ 900000 := by omega
    have K3 := Lib.hid k3
    obtain ⟨a, cap, rfl, _, _, _⟩ := hv
    clear k2 k3 k4
    go_enter Tryz.func85, Tryz.ntmps85
    go_wp2_with (first
      | (go_at_call 90; refine HG.out.mono ?_; rintro e w1 ⟨rfl, hw1⟩; rw [hw1]; clear hw1; simp only [numV])
      | (go_at_call 106; refine (reader_c _ _ _ _ _).mono ?_; rintro e w2 ⟨rfl, hw2⟩; rw [hw2]; clear hw2))
    go_loopw [26, 9, 6] (fun i out pv wr => ∃ (j pos : Nat) (acc : List Int), j ≤ m ∧ i = .int .i64 j ∧ pv = .int .i64 pos ∧ pos ≤ b.length ∧ acc.length = j ∧ Hid (decA decI b m u [] = decA decI b (m - j) pos acc) ∧ GW w (.slice a b.length cap) pos out acc wr) (fun i _ _ _ => m - (intOf i).toNat)
    case atStart => exact ⟨0, u, [], Nat.zero_le _, rfl, rfl, by have := K3.out; omega, rfl, Lib.hid rfl, GW.start _ _ _⟩
    case round =>
      obtain ⟨j, pos, acc, hj, rfl, rfl, hpos, hacc, hdec, hgw⟩ := hrel
      by_cases hlt : j < m
      · have j1 : (j : Int) < m := by omega
        have HN := Lib.hid (next_c (.slice a b.length cap) b pos w.heap.size (w.heap.size + 1) wr (HV.out.on (hgw.below)) hgw.c0 hgw.c1 hpos)
        have HS : Hid (decA decI b (m - j) pos acc = if (decI (b.drop pos)).2.2 ≠ 0 then ([], 0, (decI (b.drop pos)).2.2) else decA decI b (m - (j + 1)) (pos + (decI (b.drop pos)).2.1) (acc ++ [(decI (b.drop pos)).1])) := Lib.hid (by
          obtain ⟨k, hk⟩ : ∃ k, m - j = k + 1 := ⟨m - j - 1, by omega⟩
          rw [hk, show m - (j + 1) = k by omega, decA])
        have HUS := Lib.hid (decI_used (b.drop pos))
        generalize decI (b.drop pos) = dd at HN HS HUS
        obtain ⟨nn, uu, ee⟩ := dd
        simp only at HN HS HUS
        have HGW := Lib.hid hgw
        have HACC := Lib.hid hacc
        have HJ := Lib.hid hlt
        have HPOS := Lib.hid hpos
        clear hgw hacc hlt hpos
        by_cases h2 : ee = 0
        · subst h2
          clear hj
          go_wp2_with (first
            | (go_at_call 121; refine HN.out.mono ?_; rintro e w2 ⟨rfl, nq, hw2⟩; have HG2 : Hid (GW w (.slice a b.length cap) (pos + uu) _ acc w2) := (Lib.hid (by rw [hw2]; exact HGW.out.next _ _)); clear hw2)
            | (at_builtin; go_loud (refine app_e eI_ok rfl (.tmp 37) (.tmp 39) rfl (w.heap.size + 2) _ acc rfl (HG2.out.own.on ((Below.refl _ _).alloc (Nat.le_refl _) _)) (.slice (some ⟨w2.heap.size, 0, none⟩) 1 1) [nn] rfl (one_e w2 nn eI_ok) (by rw [HACC.out]; have := HJ.out; simp; omega) (by have := (Array.getElem?_eq_some_iff.1 HG2.out.c1).1; simp; omega) ?_); intro v3 w3 ho3 hg3 _; have HG3 : Hid (GW w (.slice a b.length cap) (pos + uu) v3 (acc ++ [nn]) w3) := (Lib.hid (HG2.out.app nn ho3 hg3)); clear ho3 hg3))
          go_roundw
          case rel => exact ⟨j + 1, pos + uu, acc ++ [nn], by have := HJ.out; omega, by go_num, rfl, by have := (HUS.out (by first | exact rfl | exact trivial)).1; rw [List.length_drop] at this; have := HPOS.out; omega, by rw [List.length_append, HACC.out]; rfl, Lib.hid (by rw [hdec.out, HS.out]; rfl), HG3.out⟩
          case measure => have := HJ.out; simp [intOf]; omega
        · have h3 : (ee != 0) = true := by simpa using h2
          have H2 := Lib.hid h2
          clear h2 hj
          go_wp2_with (go_at_call 121; refine HN.out.mono ?_; rintro e w2 ⟨rfl, nq, hw2⟩; have HG2 : Hid (GW w (.slice a b.length cap) (pos + uu) _ acc w2) := (Lib.hid (by rw [hw2]; exact HGW.out.next _ _)); clear hw2)
          go_ret3
          have HE : decIs b = ([], 0, ee) := by rw [HD.out, hdec.out, HS.out, if_pos H2.out]
          exact ⟨_, by rw [HE]; rfl, by rw [HE]; exact OwnE.nil _ _, HG2.out.below⟩
      · have he : m - j = 0 := by omega
        have j1 : ¬ (j : Int) < m := by omega
        have HE : Hid (decIs b = (acc, pos, 0)) := Lib.hid (by rw [HD.out, hdec.out, he]; rfl)
        have HGW := Lib.hid hgw
        clear he hlt hj hacc hgw hpos
        go_wp2
        go_ret3
        exact ⟨_, by rw [HE.out]; rfl, by rw [HE.out]; exact HGW.out.own.mono (by omega), HGW.out.below⟩
  · have h3 : (er != 0) = true := by simpa using h1
    rw [if_pos h1] at HD
    clear h1 hv
    go_enter Tryz.func85, Tryz.ntmps85
    go_wp2_with (go_at_call 90; refine HG.out.mono ?_; rintro e w1 ⟨rfl, hw1⟩; rw [hw1]; clear hw1; simp only [numV])
    go_ret3
    exact ⟨_, by rw [HD.out]; rfl, by rw [HD.out]; exact OwnE.nil _ _, Below.refl _ _⟩
end Go.Proofs.YtbpjdfnnlmblaaaGreatDoor
/- Lists of texts are read: the walk. -/
namespace Go.Proofs.YtbpjdfnnlmblaaaGreatDoor
open Go.RowKit
set_option linter.unusedSimpArgs false
set_option linter.unusedVariables false
theorem decS_used (b : List UInt8) (h : (decS b).2.2 = 0) : (decS b).2.1 ≤ b.length := (codecS.used b h).1
attribute [local irreducible] Calls
set_option maxRecDepth 100000 in
set_option maxHeartbeats 4000000 in
theorem getStrings_c (v : Value) (b : List UInt8) (w : World) (hv : RdE eB w v b) (hl : b.length ≤ 900000) :
    Calls Tryz.prog 53 #[v] w fun e w' => ∃ v', e = .returned (.tuple #[v', .int .i64 (decSs b).2.1, .int .i64 (decSs b).2.2]) ∧ OwnE eS w' w.heap.size v' (decSs b).1 ∧ Below w.heap.size w w' := by
  have HG := Lib.hid (count_c v b w hv)
  have HL := Lib.hid hl
  have HU := Lib.hid (cntP_ok b)
  have HV := Lib.hid hv
  have HD : Hid (decSs b = decL decS b) := Lib.hid rfl
  unfold decL at HD
  generalize cntP b 1 = d at HG HU HD
  obtain ⟨n, u, er⟩ := d
  simp only at HU HD
  by_cases h1 : er = 0
  · subst h1
    obtain ⟨_, k2, k3, k4⟩ := HU.out rfl
    obtain ⟨m, rfl⟩ : ∃ m : Nat, n = (m : Int) := ⟨n.toNat, by omega⟩
    rw [Int.toNat_natCast] at HD k3
    rw [if_neg (fun e => e rfl)] at HD
    have hmi : (m : Int) ≤ 900000 := by omega
    have K3 := Lib.hid k3
    have HMI := Lib.hid hmi
    have hbi : (b.length : Int) ≤ 900000 := by omega
    clear k2 k3 k4 hv
    go_enter Tryz.func53, Tryz.ntmps53
    go_wp2_with (go_at_call 90; refine HG.out.mono ?_; rintro e w1 ⟨rfl, hw1⟩; rw [hw1]; clear hw1; simp only [numV])
    go_loopw [22, 8, 6] (fun i out pv wr => ∃ (j pos : Nat) (acc : List (List UInt8)), j ≤ m ∧ i = .int .i64 j ∧ pv = .int .i64 pos ∧ pos ≤ b.length ∧ acc.length = j ∧ Hid (decA decS b m u [] = decA decS b (m - j) pos acc) ∧ OwnE eS wr w.heap.size out acc ∧ Below w.heap.size w wr) (fun i _ _ _ => m - (intOf i).toNat)
    case atStart => exact ⟨0, u, [], Nat.zero_le _, rfl, rfl, by have := K3.out; omega, rfl, Lib.hid rfl, OwnE.nil _ _, Below.refl _ _⟩
    case round =>
      obtain ⟨j, pos, acc, hj, rfl, rfl, hpos, hacc, hdec, hown, hb⟩ := hrel
      by_cases hlt : j < m
      · have j1 : (j : Int) < m := by omega
        obtain ⟨vs, hs, hrs⟩ := slice_l (HV.out.on hb) pos hpos
        have HN := Lib.hid (getBytes_c vs _ wr hrs)
        have HS : Hid (decA decS b (m - j) pos acc = if (decS (b.drop pos)).2.2 ≠ 0 then ([], 0, (decS (b.drop pos)).2.2) else decA decS b (m - (j + 1)) (pos + (decS (b.drop pos)).2.1) (acc ++ [(decS (b.drop pos)).1])) := Lib.hid (by
          obtain ⟨k, hk⟩ : ∃ k, m - j = k + 1 := ⟨m - j - 1, by omega⟩
          rw [hk, show m - (j + 1) = k by omega, decA])
        have hus : (decS (b.drop pos)).2.2 = 0 → pos + (decS (b.drop pos)).2.1 ≤ b.length := by
          intro h
          have := decS_used _ h
          rw [List.length_drop] at this
          omega
        have HUS := Lib.hid hus
        generalize decS (b.drop pos) = dd at HN HS HUS
        obtain ⟨nn, uu, ee⟩ := dd
        simp only at HN HS HUS
        have HOWN := Lib.hid hown
        have HB := Lib.hid hb
        have HACC := Lib.hid hacc
        have HJ := Lib.hid hlt
        clear hown hb hacc hlt hpos hrs hus
        by_cases h2 : ee = 0
        · subst h2
          have hpu : (pos : Int) + uu ≤ b.length := by have := HUS.out rfl; omega
          have hpu0 : (0 : Int) ≤ (pos : Int) + uu := by omega
          clear hj
          go_wp2_with (first
            | (go_at_call 81; refine HN.out.mono ?_; rintro e w2 ⟨rfl, hw2⟩; rw [hw2]; clear hw2; simp only [strV])
            | (at_builtin; go_loud ((refine app_e eS_ok rfl (.tmp 35) (.tmp 37) rfl w.heap.size _ acc rfl (HOWN.out.on ((Below.refl _ _).alloc (Nat.le_refl _) _)) (.slice (some ⟨wr.heap.size, 0, none⟩) 1 1) [nn] rfl (one_e wr nn eS_ok) (by rw [HACC.out]; have := HJ.out; have := HMI.out; simp; omega) (by have := HB.out.size; simp; omega) ?_; intro v3 w3 ho3 hg3 _; have HO3 := Lib.hid ho3; have HB3 : Hid (Below w.heap.size w w3) := (Lib.hid ((HB.out.alloc HB.out.size _).grown hg3 (by have := HB.out.size; simp; omega) (fun k hk2 => (HOWN.out.lt k hk2).1))); clear ho3 hg3))))
          go_roundw
          case rel => exact ⟨j + 1, pos + uu, acc ++ [nn], by have := HJ.out; omega, by go_num, by rw [Int.natCast_add], by omega, by rw [List.length_append, HACC.out]; rfl, Lib.hid (by rw [hdec.out, HS.out]; rfl), HO3.out, HB3.out⟩
          case measure => have := HJ.out; simp [intOf]; omega
        · have h3 : (ee != 0) = true := by simpa using h2
          have H2 := Lib.hid h2
          clear h2 hj
          go_wp2_with (go_at_call 81; refine HN.out.mono ?_; rintro e w2 ⟨rfl, hw2⟩; rw [hw2]; clear hw2; simp only [strV])
          go_ret3
          have HE : decSs b = ([], 0, ee) := by rw [HD.out, hdec.out, HS.out, if_pos H2.out]
          exact ⟨_, by rw [HE]; rfl, by rw [HE]; exact OwnE.nil _ _, HB.out⟩
      · have he : m - j = 0 := by omega
        have j1 : ¬ (j : Int) < m := by omega
        have HE : Hid (decSs b = (acc, pos, 0)) := Lib.hid (by rw [HD.out, hdec.out, he]; rfl)
        have HOWN := Lib.hid hown
        have HB := Lib.hid hb
        clear he hlt hj hacc hown hb hpos
        go_wp2
        go_ret3
        exact ⟨_, by rw [HE.out]; rfl, by rw [HE.out]; exact HOWN.out, HB.out⟩
  · have h3 : (er != 0) = true := by simpa using h1
    rw [if_pos h1] at HD
    clear h1 hv
    go_enter Tryz.func53, Tryz.ntmps53
    go_wp2_with (go_at_call 90; refine HG.out.mono ?_; rintro e w1 ⟨rfl, hw1⟩; rw [hw1]; clear hw1; simp only [numV])
    go_ret3
    exact ⟨_, by rw [HD.out]; rfl, by rw [HD.out]; exact OwnE.nil _ _, Below.refl _ _⟩
end Go.Proofs.YtbpjdfnnlmblaaaGreatDoor
