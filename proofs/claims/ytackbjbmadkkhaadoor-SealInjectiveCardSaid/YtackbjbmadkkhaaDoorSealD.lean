/- Sealing, the plain laws; the examples' values. -/
import Derived.Test.YtackbjbmadkkhaaDoorSealC
import Derived.Test.YtackbjbmadkkhaaDoorPureC3b
namespace Go.Proofs.YtackbjbmadkkhaaDoor
open Go.RowKit
set_option linter.unusedSimpArgs false
set_option linter.unusedVariables false
theorem xorP_twice (key n t : List UInt8) : xorP key n (xorP key n t) = t := C3.xorText_twice key 1 n t
theorem sealP_len (key ad t : List UInt8) : (sealP key ad t).length = t.length + 28 := by
  unfold sealP
  rw [List.length_append, List.length_append, nonceP_len, xorP_len, tagP_len]
  omega
theorem parts_of (n x g : List UInt8) (hn : n.length = 12) (hg : g.length = 16) : bN (n ++ (x ++ g)) = n ∧ bC (n ++ (x ++ g)) = x ∧ bT (n ++ (x ++ g)) = g := by
  have hl : (n ++ (x ++ g)).length = x.length + 28 := by rw [List.length_append, List.length_append]; omega
  refine ⟨?_, ?_, ?_⟩
  · unfold bN
    rw [← hn, List.take_left]
  · unfold bC
    rw [hl, show x.length + 28 - 16 - 12 = x.length by omega]
    conv => lhs; rw [← hn]
    rw [List.drop_left, List.take_left]
  · unfold bT
    rw [hl, ← List.append_assoc, show x.length + 28 - 16 = (n ++ x).length by rw [List.length_append]; omega, List.drop_left]
theorem parts_back (b : List UInt8) (h : 28 ≤ b.length) : b = bN b ++ (bC b ++ bT b) := by
  unfold bN bC bT
  have e : b.drop (b.length - 16) = (b.drop 12).drop (b.length - 16 - 12) := by rw [List.drop_drop]; congr 1; omega
  rw [e, List.take_append_drop, List.take_append_drop]
theorem open_seal (key ad t : List UInt8) : openP key ad (sealP key ad t) = some t := by
  obtain ⟨h1, h2, h3⟩ := parts_of (nonceP (macK key) ad t) (xorP (encK key) (nonceP (macK key) ad t) t) (tagP (macK key) (nonceP (macK key) ad t) ad (xorP (encK key) (nonceP (macK key) ad t) t)) (nonceP_len _ _ _) (tagP_len _ _ _ _)
  unfold openP sealP
  rw [h1, h2, h3, xorP_twice, if_pos ⟨rfl, rfl⟩]
theorem seal_open (key ad b x : List UInt8) (hb : 28 ≤ b.length) (h : openP key ad b = some x) : b = sealP key ad x := by
  unfold openP at h
  split at h
  · rename_i hc
    obtain ⟨h1, h2⟩ := hc
    have hx : xorP (encK key) (bN b) (bC b) = x := by simpa using h
    rw [hx] at h2
    have hcx : xorP (encK key) (bN b) x = bC b := by rw [← hx, xorP_twice]
    have hp := parts_back b hb
    unfold sealP
    rw [h2, hcx, h1]
    exact hp
  · cases h
/-- the laws, on the answers -/
theorem law_rt (key ad t : List UInt8) (h : sealE key ad t = 0) : openX key ad (sealX key ad t) = t ∧ openE key ad (sealX key ad t) = 0 ∧ (sealX key ad t).length = t.length + 28 := by
  unfold sealE at h
  split at h
  · rename_i hk
    split at h
    · cases h
    · rename_i hs
      have hx : sealX key ad t = sealP key ad t := by unfold sealX; rw [if_pos ⟨hk, hs⟩]
      have hl := sealP_len key ad t
      rw [hx]
      unfold openX openE
      have h2 : ¬ (1048576 < ad.length ∨ 1048604 < (sealP key ad t).length) := by omega
      have h3 : ¬ (sealP key ad t).length < 28 := by omega
      rw [if_pos ⟨hk, h2, h3⟩, if_pos hk, if_neg h2, if_neg h3, open_seal]
      exact ⟨rfl, rfl, hl⟩
  · cases h
theorem law_no (key ad t : List UInt8) (h : sealE key ad t ≠ 0) (hs : ad.length ≤ 1048576 ∧ t.length ≤ 1048576) : sealX key ad t = [] ∧ sealE key ad t = 1 ∧ ¬ key.length = 32 := by
  unfold sealE at h ⊢
  unfold sealX
  have h2 : ¬ (1048576 < ad.length ∨ 1048576 < t.length) := by omega
  by_cases hk : key.length = 32
  · rw [if_pos hk, if_neg h2] at h
    exact absurd rfl h
  · rw [if_neg (fun e => hk e.1), if_neg hk]
    exact ⟨rfl, rfl, hk⟩
theorem law_changed (key ad t b : List UInt8) (h : sealE key ad t = 0) (hne : sealX key ad t ≠ b) : openE key ad b ≠ 0 ∨ openX key ad b ≠ t := by
  by_cases he : openE key ad b = 0
  · refine .inr fun hx => hne ?_
    unfold openE at he
    split at he
    · rename_i hk
      split at he
      · cases he
      · rename_i h2
        split at he
        · cases he
        · rename_i h3
          split at he
          · rename_i h4
            obtain ⟨x, hx4⟩ := Option.isSome_iff_exists.1 h4
            have hox : openX key ad b = x := by unfold openX; rw [if_pos ⟨hk, h2, h3⟩, hx4]; rfl
            rw [hox] at hx
            subst hx
            have hb := seal_open key ad b x (by omega) hx4
            have hl := sealP_len key ad x
            have hs : ¬ (1048576 < ad.length ∨ 1048576 < x.length) := by rw [hb, hl] at h2; omega
            unfold sealX
            rw [if_pos ⟨hk, hs⟩]
            exact hb.symm
          · cases he
    · cases he
  · exact .inl he
theorem law_inj (key ad t ad2 t2 : List UInt8) (h : sealE key ad t = 0) (h2 : sealE key ad2 t2 = 0) (e : sealX key ad t = sealX key ad2 t2) : t = t2 := by
  have hx : ∀ ad t, sealE key ad t = 0 → sealX key ad t = sealP key ad t := by
    intro ad t h
    unfold sealE at h
    unfold sealX
    split at h
    · rename_i hk
      split at h
      · cases h
      · rename_i hs
        rw [if_pos ⟨hk, hs⟩]
    · cases h
  rw [hx ad t h, hx ad2 t2 h2] at e
  obtain ⟨a1, a2, a3⟩ := parts_of (nonceP (macK key) ad t) (xorP (encK key) (nonceP (macK key) ad t) t) (tagP (macK key) (nonceP (macK key) ad t) ad (xorP (encK key) (nonceP (macK key) ad t) t)) (nonceP_len _ _ _) (tagP_len _ _ _ _)
  obtain ⟨b1, b2, b3⟩ := parts_of (nonceP (macK key) ad2 t2) (xorP (encK key) (nonceP (macK key) ad2 t2) t2) (tagP (macK key) (nonceP (macK key) ad2 t2) ad2 (xorP (encK key) (nonceP (macK key) ad2 t2) t2)) (nonceP_len _ _ _) (tagP_len _ _ _ _)
  unfold sealP at e
  have e1 : nonceP (macK key) ad t = nonceP (macK key) ad2 t2 := by rw [← a1, e, b1]
  have e2 : xorP (encK key) (nonceP (macK key) ad t) t = xorP (encK key) (nonceP (macK key) ad2 t2) t2 := by rw [← a2, e, b2]
  rw [e1] at e2
  have := congrArg (xorP (encK key) (nonceP (macK key) ad2 t2)) e2
  rwa [xorP_twice, xorP_twice] at this
/-! the examples -/
def k0 : List UInt8 := List.replicate 32 107
def tx : List UInt8 := [116, 101, 120, 116]
def mV : List UInt8 := [6, 140, 13, 137, 188, 84, 243, 157, 254, 34, 11, 202, 224, 245, 222, 181, 148, 133, 252, 76, 241, 137, 65, 48, 114, 184, 187, 225, 57, 216, 208, 1]
def eV : List UInt8 := [238, 226, 18, 95, 111, 182, 41, 239, 103, 209, 2, 100, 239, 7, 244, 40, 137, 36, 79, 150, 150, 201, 99, 117, 92, 0, 40, 138, 227, 116, 234, 86]
def nV : List UInt8 := [43, 242, 99, 221, 65, 83, 238, 17, 202, 228, 218, 83]
def cV : List UInt8 := [241, 10, 44, 90]
theorem m_val : macK k0 = mV := by decide +kernel
theorem e_val : encK k0 = eV := by decide +kernel
theorem n_val : nonceP mV [97] tx = nV := by decide +kernel
theorem c_val : xorP eV nV tx = cV := by decide +kernel
theorem t_ne : tagP mV nV [98] cV ≠ tagP mV nV [97] cV := by decide +kernel
theorem k0_len : k0.length = 32 := by unfold k0; rw [List.length_replicate]
theorem ex_s : sealX k0 [97] tx = sealP k0 [97] tx := by unfold sealX; rw [if_pos ⟨k0_len, by decide⟩]
theorem ex_len : (sealX k0 [97] tx).length = 32 := by rw [ex_s, sealP_len]; rfl
theorem ex_e : sealE k0 [97] tx = 0 := by unfold sealE; rw [if_pos k0_len, if_neg (by decide)]
theorem ex_o : openX k0 [97] (sealX k0 [97] tx) = tx ∧ openE k0 [97] (sealX k0 [97] tx) = 0 := by
  obtain ⟨h1, h2, _⟩ := law_rt k0 [97] tx ex_e
  exact ⟨h1, h2⟩
theorem ex_auth : openE k0 [98] (sealX k0 [97] tx) = 8 := by
  rw [ex_s]
  have hl := sealP_len k0 [97] tx
  have ht : tx.length = 4 := rfl
  unfold openE
  rw [if_pos k0_len, if_neg (by rw [hl, ht]; decide), if_neg (by rw [hl]; omega)]
  have hn : openP k0 [98] (sealP k0 [97] tx) = none := by
    obtain ⟨h1, h2, h3⟩ := parts_of (nonceP (macK k0) [97] tx) (xorP (encK k0) (nonceP (macK k0) [97] tx) tx) (tagP (macK k0) (nonceP (macK k0) [97] tx) [97] (xorP (encK k0) (nonceP (macK k0) [97] tx) tx)) (nonceP_len _ _ _) (tagP_len _ _ _ _)
    unfold openP sealP
    rw [h1, h2, h3, if_neg]
    rintro ⟨h, _⟩
    rw [m_val, e_val, n_val, c_val] at h
    exact t_ne h
  rw [hn]
  rfl
theorem ex_short : openE k0 [97] (List.replicate 27 120) = 5 := by unfold openE; rw [if_pos k0_len, if_neg (by simp), if_pos (by simp)]
theorem ex_arg : sealE (k0.drop 1) [97] [] = 1 := by unfold sealE; rw [if_neg (by rw [List.length_drop, k0_len]; decide)]
theorem ex_kA : keysA k0 = eV := by unfold keysA; rw [if_pos k0_len, e_val]
theorem ex_kB : keysB k0 = mV := by unfold keysB; rw [if_pos k0_len, m_val]
theorem ex_kE : keysE k0 = 0 := by unfold keysE; rw [if_pos k0_len]
theorem ex_kne : eV ≠ mV := by decide
end Go.Proofs.YtackbjbmadkkhaaDoor
