/- Facts of the law on weights. -/
import Derived.Test.YtbkkffdgkkcbfabFieldT
namespace Go.Proofs.Ytbkkffdgkkcbfab
open Go.RowKit F6
def psum (xs : List UInt8) (x : UInt8) (j : Nat) : UInt8 := xsum ((List.range j).map (wt xs x))
theorem psum_zero (xs : List UInt8) (x : UInt8) : psum xs x 0 = 0 := rfl
theorem psum_succ (xs : List UInt8) (x : UInt8) (j : Nat) (h : j < xs.length) : psum xs x (j + 1) = psum xs x j ^^^ byteAt (wts xs x xs.length) j := by
  rw [wts_at _ _ _ _ h]
  simp only [psum, List.range_succ, List.map_append, xsum_append]
  simp [xsum]
theorem psum_all (xs : List UInt8) (x : UInt8) (hok : okX xs = true) : (B8 (psum xs x xs.length) == 1) = true := by
  obtain ⟨hnd, h1, _⟩ := okX_nodup hok
  have : psum xs x xs.length = 1 := wt_sum xs hnd h1 x
  rw [this]; rfl
theorem wts_self (xs : List UInt8) (hok : okX xs = true) (k : Nat) (hk : k < xs.length) : byteAt (wts xs (byteAt xs k) xs.length) k = 1 := by
  rw [wts_at _ _ _ _ hk]; exact wt_self xs (okX_nodup hok).1 k hk
theorem wts_other (xs : List UInt8) (k j : Nat) (hk : k < xs.length) (hj : j < xs.length) (h : j ≠ k) : byteAt (wts xs (byteAt xs k) xs.length) j = 0 := by
  rw [wts_at _ _ _ _ hj]; exact wt_other xs j k hk h
def turn (xs : List UInt8) (k : Nat) : List UInt8 := xs.drop k ++ xs.take k
theorem turn_perm (xs : List UInt8) (k : Nat) : (turn xs k).Perm xs := by
  have := List.perm_append_comm (l₁ := xs.drop k) (l₂ := xs.take k)
  rw [List.take_append_drop] at this
  exact this
theorem turn_len (xs : List UInt8) (k : Nat) : (turn xs k).length = xs.length := (turn_perm xs k).length_eq
theorem turn_ok (xs : List UInt8) (k : Nat) (hok : okX xs = true) : okX (turn xs k) = true := by
  obtain ⟨h1, h2, h3⟩ := okX_nodup hok
  have h4 := (turn_perm xs k).nodup_iff.2 h1
  have h5 := turn_len xs k
  simp [okX, h4, h5, h2, h3]
theorem turn_wt (xs : List UInt8) (x : UInt8) (k : Nat) (hk : k < xs.length) : byteAt (wts (turn xs k) x xs.length) 0 = byteAt (wts xs x xs.length) k := by
  rw [wts_at _ _ _ _ (by omega), wts_at _ _ _ _ hk]
  have e : turn xs k = xs[k] :: (xs.drop (k + 1) ++ xs.take k) := by rw [turn, List.drop_eq_getElem_cons hk, List.cons_append]
  have e2 : (turn xs k).eraseIdx 0 = xs.drop (k + 1) ++ xs.take k := by rw [e]; rfl
  have e3 : (turn xs k).getD 0 0 = xs.getD k 0 := by rw [e]; simp [List.getD_eq_getElem?_getD, hk]
  have e4 : xs.eraseIdx k = xs.take k ++ xs.drop (k + 1) := List.eraseIdx_eq_take_drop_succ xs k
  have p : (xs.drop (k + 1) ++ xs.take k).Perm (xs.take k ++ xs.drop (k + 1)) := List.perm_append_comm
  rw [wt, wt, e2, e3, e4, pr_eq, pr_eq, pr_eq, pr_eq, prr_perm p, prr_perm p]
theorem byteAt_drop (l : List UInt8) (k j : Nat) : byteAt (l.drop k) j = byteAt l (k + j) := by simp [byteAt, List.getD_eq_getElem?_getD]
theorem t8_one : (B8 1 == 1) = true := rfl
theorem t8_zero : (B8 0 == 1) = false := rfl
theorem t8_one_gt : ¬ (1 : Int) < B8 1 := by decide
theorem t8_zero_gt : ¬ (1 : Int) < B8 0 := by decide
theorem t8_0 : B8 0 = 0 := rfl
theorem bv_at (l : List UInt8) (j : Nat) (u : Value) (h : (bv l)[j]? = some u) : j < l.length ∧ u = .int .u8 (B8 (byteAt l j)) := by
  obtain ⟨hj, e⟩ := List.getElem?_eq_some_iff.1 h
  have hj' : j < l.length := by simpa [bv] using hj
  refine ⟨hj', ?_⟩
  rw [← e]
  simp [bv, byteAt, List.getD_eq_getElem?_getD, hj']
theorem add_off (b off j : Nat) : (⟨b, off, none⟩ : Addr).add j = ⟨b, off + j, none⟩ := by unfold Addr.add; split <;> simp_all
theorem news_drop {w : World} {b off : Nat} {l : List UInt8} (hc : ∀ i, i < l.length → w.cell? ⟨b, off + i, none⟩ = some (.int .u8 (B8 (byteAt l i)))) (k : Nat) :
    ∀ j u, (bv (l.drop k))[j]? = some u → w.cell? ((⟨b, off + k, none⟩ : Addr).add j) = some u := by
  intro j u h
  obtain ⟨h1, rfl⟩ := bv_at _ _ _ h
  rw [List.length_drop] at h1
  rw [add_off, Nat.add_assoc, hc (k + j) (by omega), byteAt_drop]
theorem news_take {w : World} {b off : Nat} {l : List UInt8} (hc : ∀ i, i < l.length → w.cell? ⟨b, off + i, none⟩ = some (.int .u8 (B8 (byteAt l i)))) (k : Nat) :
    ∀ j u, (bv (l.take k))[j]? = some u → w.cell? ((⟨b, off, none⟩ : Addr).add j) = some u := by
  intro j u h
  obtain ⟨h1, rfl⟩ := bv_at _ _ _ h
  rw [List.length_take] at h1
  rw [add_off, hc j (by omega)]
  have : byteAt (l.take k) j = byteAt l j := by simp [byteAt, List.getD_eq_getElem?_getD, List.getElem?_take, show j < k by omega]
  rw [this]
end Go.Proofs.Ytbkkffdgkkcbfab
