/- Sealing: what it is in plain words; the program's codes and keys. -/
import Derived.Test.YtackbjbmadkkhaaDoorWireB
import Derived.Test.YtackbjbmadkkhaaDoorCipF
import Derived.Test.YtackbjbmadkkhaaDoorShelf
namespace Go.Proofs.YtackbjbmadkkhaaDoor
open Go.RowKit
set_option linter.unusedSimpArgs false
set_option linter.unusedVariables false
def encK (key : List UInt8) : List UInt8 := mac key [101, 110, 99]
def macK (key : List UInt8) : List UInt8 := mac key [109, 97, 99]
def nonceP (m ad t : List UInt8) : List UInt8 := (mac m ([110, 111, 110, 99, 101] ++ (encS ad ++ t))).take 12
def tagP (m n ad c : List UInt8) : List UInt8 := (mac m ([116, 97, 103] ++ (n ++ (encS ad ++ c)))).take 16
theorem encK_len (k : List UInt8) : (encK k).length = 32 := mac_len _ _
theorem macK_len (k : List UInt8) : (macK k).length = 32 := mac_len _ _
theorem nonceP_len (m ad t : List UInt8) : (nonceP m ad t).length = 12 := by unfold nonceP; rw [List.length_take, mac_len]; rfl
theorem tagP_len (m n ad c : List UInt8) : (tagP m n ad c).length = 16 := by unfold tagP; rw [List.length_take, mac_len]; rfl
/-- encryption and decryption -/
def xorP (key n t : List UInt8) : List UInt8 := C3.xorText key 1 n t
/-- a sealed text -/
def sealP (key ad t : List UInt8) : List UInt8 :=
  nonceP (macK key) ad t ++ (xorP (encK key) (nonceP (macK key) ad t) t ++ tagP (macK key) (nonceP (macK key) ad t) ad (xorP (encK key) (nonceP (macK key) ad t) t))
/-- the three parts of a blob -/
def bN (blob : List UInt8) : List UInt8 := blob.take 12
def bC (blob : List UInt8) : List UInt8 := (blob.drop 12).take (blob.length - 16 - 12)
def bT (blob : List UInt8) : List UInt8 := blob.drop (blob.length - 16)
/-- what a blob of at least 28 bytes is opened as: the text, if there is one -/
def openP (key ad blob : List UInt8) : Option (List UInt8) :=
  if tagP (macK key) (bN blob) ad (bC blob) = bT blob ∧ nonceP (macK key) ad (xorP (encK key) (bN blob) (bC blob)) = bN blob then some (xorP (encK key) (bN blob) (bC blob)) else none
theorem encS_len (s : List UInt8) : (encS s).length ≤ s.length + 9 := by unfold encS; rw [List.length_append]; have := encI_le (s.length : Int); omega
/-- bytes of a string as a byte array -/
theorem join_flat (xs : List (List UInt8)) : Lib.join xs [] = xs.flatten := by
  cases xs with
  | nil => rfl
  | cons x r =>
    rw [Lib.join_cons, List.flatten_cons]
    congr 1
    unfold Lib.joinTail
    simp
attribute [local irreducible] Calls mac encS
set_option maxRecDepth 100000 in
set_option maxHeartbeats 2000000 in
theorem code_c (m : List UInt8) (n : Nat) (bk : Nat) (xs : List (List UInt8)) (w : World) (hk : KAt w) (hn : n ≤ 32) (hm : m.length ≤ 1000000)
    (hcells : ∀ (j : Nat) x, xs[j]? = some x → w.cell? ⟨bk, j, none⟩ = some (.string ⟨x.toArray⟩)) (hbk : bk < w.heap.size) (hx : xs.length ≤ 100) (hl : xs.flatten.length ≤ 10000000) :
    Calls Tryd.prog 20 #[.string ⟨m.toArray⟩, .int .i64 n, .slice (some ⟨bk, 0, none⟩) xs.length xs.length] w fun e w' => e = .returned (.string ⟨((mac m xs.flatten).take n).toArray⟩) ∧ Below w.heap.size w w' := by
  have hj : ((xs.map (fun x => ByteArray.mk x.toArray)).map (·.data.toList)) = xs := by
    rw [List.map_map]
    show xs.map (fun x => x) = xs
    simp
  have J := Tryd.strings_Join bk 0 xs.length (xs.map (fun x => ByteArray.mk x.toArray)) ⟨#[]⟩ w (by
    intro j x hx
    rw [List.getElem?_map] at hx
    cases hq : xs[j]? with
    | none => rw [hq] at hx; cases hx
    | some y =>
      rw [hq] at hx
      cases hx
      rw [Nat.zero_add]
      exact hcells j y hq) hbk (by rw [List.length_map]; omega) (by rw [List.length_map]; exact Nat.le_refl _) (by rw [hj, join_flat]; omega)
  rw [hj, List.length_map, join_flat] at J
  have HJ := Lib.hid J
  have HL := Lib.hid hl
  have HK := Lib.hid hk
  have HM := Lib.hid hm
  have hni : (n : Int) ≤ 32 := by omega
  have hml := mac_len m xs.flatten
  have HML := Lib.hid hml
  clear J hj hcells hl hm hk hml
  generalize hfl : xs.flatten = fl at HJ HL HML ⊢
  clear hfl
  go_enter Tryd.func20, Tryd.ntmps20
  go_wp2_with (first
    | (go_at_call 40; refine HJ.out.mono ?_; rintro e w1 ⟨rfl, hb1⟩; have HB1 := Lib.hid hb1; clear hb1)
    | (go_at_call 17; refine (mac_c m fl _ (HK.out.on HB1.out) (by have := HM.out; omega) (by have := HL.out; omega)).mono ?_; rintro e w2 ⟨rfl, hb2⟩; have HB2 := Lib.hid (HB1.out.trans (hb2.mono HB1.out.size)); clear hb2; generalize hmk : mac m fl = mk at HML ⊢; have hl32 : (ByteArray.mk mk.toArray).size = 32 := HML.out))
  go_ret
  exact ⟨by rw [hmk]; rfl, HB2.out⟩
set_option maxRecDepth 100000 in
set_option maxHeartbeats 2000000 in
theorem keys_c (key : List UInt8) (w : World) (hk : KAt w) (hl : key.length = 32) :
    Calls Tryd.prog 10 #[.string ⟨key.toArray⟩] w fun e w' => e = .returned (.tuple #[.string ⟨(encK key).toArray⟩, .string ⟨(macK key).toArray⟩, .int .i64 0]) ∧ Below w.heap.size w w' := by
  have HL := Lib.hid hl
  have HK := Lib.hid hk
  have i1 : ((key.length : Int) != 32) = false := by rw [hl]; rfl
  have he : mac key [101, 110, 99] = encK key := rfl
  have hm : mac key [109, 97, 99] = macK key := rfl
  have HE := Lib.hid he
  have HM := Lib.hid hm
  clear hk hl he hm
  go_enter Tryd.func10, Tryd.ntmps10
  go_wp2_with (first
    | (go_at_call 17; refine (mac_c key [101, 110, 99] _ HK.out (by rw [HL.out]; decide) (by decide)).mono ?_; rintro e w1 ⟨rfl, hb1⟩; have HB1 := Lib.hid hb1; clear hb1; rw [HE.out])
    | (go_at_call 17; refine (mac_c key [109, 97, 99] _ (HK.out.on HB1.out) (by rw [HL.out]; decide) (by decide)).mono ?_; rintro e w2 ⟨rfl, hb2⟩; have HB2 := Lib.hid (HB1.out.trans (hb2.mono HB1.out.size)); clear hb2; rw [HM.out]))
  go_ret3
  exact ⟨rfl, HB2.out⟩
set_option maxRecDepth 100000 in
set_option maxHeartbeats 2000000 in
theorem keys_no (key : List UInt8) (w : World) (hl : ¬ key.length = 32) :
    Calls Tryd.prog 10 #[.string ⟨key.toArray⟩] w fun e w' => e = .returned (.tuple #[.string ⟨#[]⟩, .string ⟨#[]⟩, .int .i64 1]) ∧ Below w.heap.size w w' := by
  have i1 : ((key.length : Int) != 32) = true := by simp; omega
  clear hl
  go_enter Tryd.func10, Tryd.ntmps10
  go_wp2
  go_ret3
  exact ⟨rfl, Below.refl _ _⟩
theorem xor1_c (key nonce text : List UInt8) (hk : key.length = 32) (hn : nonce.length = 12) (ht : text.length ≤ 2000000) (w : World) :
    Calls Tryd.prog 21 #[.string ⟨key.toArray⟩, .int .u32 1, .string ⟨nonce.toArray⟩, .string ⟨text.toArray⟩] w fun e w' => e = .returned (.tuple #[.string ⟨(xorP key nonce text).toArray⟩, .int .i64 0]) ∧ Below w.heap.size w w' := xor_c key nonce text 1 hk hn ht w
@[go_sem] theorem ba_app (a b : List UInt8) : (ByteArray.mk a.toArray ++ ByteArray.mk b.toArray) = ByteArray.mk (a ++ b).toArray := by
  apply ByteArray.ext
  rw [ByteArray.data_append]
  simp
/-- strings that were built into a slice -/
theorem built_cells (w : World) (xs : List (List UInt8)) (T : TypeId) : ∀ (j : Nat) x, xs[j]? = some x → (w.alloc (.cells (xs.map (fun x => Value.string ⟨x.toArray⟩)).toArray T)).cell? ⟨w.heap.size, j, none⟩ = some (.string ⟨x.toArray⟩) := by
  intro j x hx
  rw [cell_of_row _ _ _ _ _ _ (heap_last _ _ _ rfl)]
  simp [hx]
theorem code3_c (m : List UInt8) (a b c : List UInt8) (w : World) (T : TypeId) (hk : KAt w) (hm : m.length = 32) (ha : a.length ≤ 100) (hb : b.length ≤ 2100000) (hc : c.length ≤ 2100000) :
    Calls Tryd.prog 20 #[.string ⟨m.toArray⟩, .int .i64 12, .slice (some ⟨w.heap.size, 0, none⟩) 3 3] (w.alloc (.cells #[.string ⟨a.toArray⟩, .string ⟨b.toArray⟩, .string ⟨c.toArray⟩] T)) fun e w' => e = .returned (.string ⟨((mac m (a ++ (b ++ c))).take 12).toArray⟩) ∧ Below w.heap.size w w' := by
  have h := code_c m 12 w.heap.size [a, b, c] (w.alloc (.cells #[.string ⟨a.toArray⟩, .string ⟨b.toArray⟩, .string ⟨c.toArray⟩] T)) (hk.alloc _) (by decide) (by omega) (built_cells w [a, b, c] T) (by simp) (by simp) (by simp; omega)
  have e : [a, b, c].flatten = a ++ (b ++ c) := by simp
  rw [e] at h
  exact h.mono fun e w' hh => ⟨hh.1, ((Below.refl _ _).alloc (Nat.le_refl _) _).trans (hh.2.mono (by simp))⟩
theorem code4_c (m : List UInt8) (a b c d : List UInt8) (w : World) (T : TypeId) (hk : KAt w) (hm : m.length = 32) (ha : a.length ≤ 100) (hb : b.length ≤ 2100000) (hc : c.length ≤ 2100000) (hd : d.length ≤ 2100000) :
    Calls Tryd.prog 20 #[.string ⟨m.toArray⟩, .int .i64 16, .slice (some ⟨w.heap.size, 0, none⟩) 4 4] (w.alloc (.cells #[.string ⟨a.toArray⟩, .string ⟨b.toArray⟩, .string ⟨c.toArray⟩, .string ⟨d.toArray⟩] T)) fun e w' => e = .returned (.string ⟨((mac m (a ++ (b ++ (c ++ d)))).take 16).toArray⟩) ∧ Below w.heap.size w w' := by
  have h := code_c m 16 w.heap.size [a, b, c, d] (w.alloc (.cells #[.string ⟨a.toArray⟩, .string ⟨b.toArray⟩, .string ⟨c.toArray⟩, .string ⟨d.toArray⟩] T)) (hk.alloc _) (by decide) (by omega) (built_cells w [a, b, c, d] T) (by simp) (by simp) (by simp; omega)
  have e : [a, b, c, d].flatten = a ++ (b ++ (c ++ d)) := by simp
  rw [e] at h
  exact h.mono fun e w' hh => ⟨hh.1, ((Below.refl _ _).alloc (Nat.le_refl _) _).trans (hh.2.mono (by simp))⟩
theorem nonce_c (m ad t : List UInt8) (w : World) (hk : KAt w) (hm : m.length = 32) (ha : ad.length ≤ 2000000) (ht : t.length ≤ 2000000) :
    Calls Tryd.prog 20 #[.string ⟨m.toArray⟩, .int .i64 12, .slice (some ⟨w.heap.size, 0, none⟩) 3 3] (w.alloc (.cells #[.string ⟨#[110, 111, 110, 99, 101]⟩, .string ⟨(encS ad).toArray⟩, .string ⟨t.toArray⟩] 9)) fun e w' => e = .returned (.string ⟨(nonceP m ad t).toArray⟩) ∧ Below w.heap.size w w' :=
  code3_c m [110, 111, 110, 99, 101] (encS ad) t w _ hk hm (by decide) (by have := encS_len ad; omega) (by omega)
theorem tag_c (m n ad c : List UInt8) (w : World) (hk : KAt w) (hm : m.length = 32) (hn : n.length ≤ 2000000) (ha : ad.length ≤ 2000000) (hc : c.length ≤ 2000000) :
    Calls Tryd.prog 20 #[.string ⟨m.toArray⟩, .int .i64 16, .slice (some ⟨w.heap.size, 0, none⟩) 4 4] (w.alloc (.cells #[.string ⟨#[116, 97, 103]⟩, .string ⟨n.toArray⟩, .string ⟨(encS ad).toArray⟩, .string ⟨c.toArray⟩] 9)) fun e w' => e = .returned (.string ⟨(tagP m n ad c).toArray⟩) ∧ Below w.heap.size w w' :=
  code4_c m [116, 97, 103] n (encS ad) c w _ hk hm (by decide) (by omega) (by have := encS_len ad; omega) (by omega)
theorem xorP_len (key n t : List UInt8) : (xorP key n t).length = t.length := C3.length_xorText key 1 n t
set_option maxRecDepth 100000 in
set_option maxHeartbeats 2000000 in
theorem seal_c (key ad t : List UInt8) (w : World) (hk : KAt w) (hl : key.length = 32) (ha : ad.length ≤ 1048576) (ht : t.length ≤ 1048576) :
    Calls Tryd.prog 12 #[.string ⟨key.toArray⟩, .string ⟨ad.toArray⟩, .string ⟨t.toArray⟩] w fun e w' => e = .returned (.tuple #[.string ⟨(sealP key ad t).toArray⟩, .int .i64 0]) ∧ Below w.heap.size w w' := by
  have HL := Lib.hid hl
  have HK := Lib.hid hk
  have HA := Lib.hid ha
  have HT := Lib.hid ht
  have i1 : ¬ (1048576 : Int) < ad.length := by omega
  have i2 : ¬ (1048576 : Int) < t.length := by omega
  have hs : sealP key ad t = nonceP (macK key) ad t ++ (xorP (encK key) (nonceP (macK key) ad t) t ++ tagP (macK key) (nonceP (macK key) ad t) ad (xorP (encK key) (nonceP (macK key) ad t) t)) := rfl
  have HS := Lib.hid hs
  have HEL := Lib.hid (encK_len key)
  have HML := Lib.hid (macK_len key)
  have HEN := Lib.hid (encS_len ad)
  clear hl hk ha ht hs
  go_enter Tryd.func12, Tryd.ntmps12
  go_wp2_with (first
    | (go_at_call 10; refine (keys_c key _ HK.out HL.out).mono ?_; rintro e w1 ⟨rfl, hb1⟩; have HB1 := Lib.hid hb1; clear hb1; generalize hek : encK key = ek; generalize hmk : macK key = mk; have HEK := Lib.hid hek; have HMK := Lib.hid hmk; clear hek hmk)
    | (go_at_call 19; refine (bytes_c ad _ (by have := HA.out; omega)).mono ?_; rintro e w2 ⟨v2, rfl, ho2, hb2⟩; have HB2 := Lib.hid (HB1.out.trans (hb2.mono HB1.out.size)); have hcv := conv_e ho2.rd; clear ho2 hb2)
    | (go_at_call 20; refine (nonce_c mk ad t w2 (HK.out.on HB2.out) (by rw [← HMK.out]; exact HML.out) (by have := HA.out; omega) (by have := HT.out; omega)).mono ?_; rintro e w3 ⟨rfl, hb3⟩; have HB3 := Lib.hid (HB2.out.trans (hb3.mono HB2.out.size)); clear hb3; generalize hn : nonceP mk ad t = nc; have HN := Lib.hid hn; have HNL : Hid (nc.length = 12) := (Lib.hid (by rw [← hn]; exact nonceP_len _ _ _)); clear hn)
    | (go_at_call 21; refine (xor1_c ek nc t (by rw [← HEK.out]; exact HEL.out) HNL.out (by have := HT.out; omega) _).mono ?_; rintro e w4 ⟨rfl, hb4⟩; have HB4 := Lib.hid (HB3.out.trans (hb4.mono HB3.out.size)); clear hb4; generalize hx : xorP ek nc t = xc; have HX := Lib.hid hx; have HXL : Hid (xc.length = t.length) := (Lib.hid (by rw [← hx]; exact xorP_len _ _ _)); clear hx; have q1 : ¬ 9223372036854775807 < nc.length + xc.length := (by rw [HNL.out, HXL.out]; have := HT.out; omega))
    | (go_at_call 20; refine (tag_c mk nc ad xc w4 (HK.out.on HB4.out) (by rw [← HMK.out]; exact HML.out) (by rw [HNL.out]; decide) (by have := HA.out; omega) (by rw [HXL.out]; have := HT.out; omega)).mono ?_; rintro e w5 ⟨rfl, hb5⟩; have HB5 := Lib.hid (HB4.out.trans (hb5.mono HB4.out.size)); clear hb5; generalize htg : tagP mk nc ad xc = tg; have HTG := Lib.hid htg; have q2 : ¬ 9223372036854775807 < nc.length + xc.length + tg.length := (by rw [← htg, tagP_len, HNL.out, HXL.out]; have := HT.out; omega); clear htg))
  go_ret2
  exact ⟨by rw [HS.out, HEK.out, HMK.out, HN.out, HX.out, HTG.out]; rfl, HB5.out⟩
set_option maxRecDepth 100000 in
set_option maxHeartbeats 2000000 in
theorem seal_lim (key ad t : List UInt8) (w : World) (hk : KAt w) (hl : key.length = 32) (h : 1048576 < ad.length ∨ 1048576 < t.length) :
    Calls Tryd.prog 12 #[.string ⟨key.toArray⟩, .string ⟨ad.toArray⟩, .string ⟨t.toArray⟩] w fun e w' => e = .returned (.tuple #[.string ⟨#[]⟩, .int .i64 2]) ∧ Below w.heap.size w w' := by
  by_cases h1 : 1048576 < ad.length
  · have i1 : (1048576 : Int) < ad.length := by omega
    clear h h1
    go_enter Tryd.func12, Tryd.ntmps12
    go_wp2_with (go_at_call 10; refine (keys_c key _ hk hl).mono ?_; rintro e w1 ⟨rfl, hb1⟩)
    go_ret2
    exact ⟨rfl, hb1⟩
  · have i1 : ¬ (1048576 : Int) < ad.length := by omega
    have i2 : (1048576 : Int) < t.length := by omega
    clear h h1
    go_enter Tryd.func12, Tryd.ntmps12
    go_wp2_with (go_at_call 10; refine (keys_c key _ hk hl).mono ?_; rintro e w1 ⟨rfl, hb1⟩)
    go_ret2
    exact ⟨rfl, hb1⟩
set_option maxRecDepth 100000 in
set_option maxHeartbeats 2000000 in
theorem seal_no (key ad t : List UInt8) (w : World) (hl : ¬ key.length = 32) :
    Calls Tryd.prog 12 #[.string ⟨key.toArray⟩, .string ⟨ad.toArray⟩, .string ⟨t.toArray⟩] w fun e w' => e = .returned (.tuple #[.string ⟨#[]⟩, .int .i64 1]) ∧ Below w.heap.size w w' := by
  go_enter Tryd.func12, Tryd.ntmps12
  go_wp2_with (go_at_call 10; refine (keys_no key _ hl).mono ?_; rintro e w1 ⟨rfl, hb1⟩)
  go_ret2
  exact ⟨rfl, hb1⟩
/-- the answers, whatever the lengths are -/
def keysA (key : List UInt8) : List UInt8 := if key.length = 32 then encK key else []
def keysB (key : List UInt8) : List UInt8 := if key.length = 32 then macK key else []
def keysE (key : List UInt8) : Int := if key.length = 32 then 0 else 1
def sealX (key ad t : List UInt8) : List UInt8 := if key.length = 32 ∧ ¬ (1048576 < ad.length ∨ 1048576 < t.length) then sealP key ad t else []
def sealE (key ad t : List UInt8) : Int := if key.length = 32 then (if 1048576 < ad.length ∨ 1048576 < t.length then 2 else 0) else 1
theorem keys_t (key : List UInt8) (w : World) (hk : KAt w) :
    Calls Tryd.prog 10 #[.string ⟨key.toArray⟩] w fun e w' => e = .returned (.tuple #[.string ⟨(keysA key).toArray⟩, .string ⟨(keysB key).toArray⟩, .int .i64 (keysE key)]) ∧ Below w.heap.size w w' := by
  unfold keysA keysB keysE
  by_cases h : key.length = 32
  · rw [if_pos h, if_pos h, if_pos h]
    exact keys_c key w hk h
  · rw [if_neg h, if_neg h, if_neg h]
    exact keys_no key w h
theorem seal_t (key ad t : List UInt8) (w : World) (hk : KAt w) :
    Calls Tryd.prog 12 #[.string ⟨key.toArray⟩, .string ⟨ad.toArray⟩, .string ⟨t.toArray⟩] w fun e w' => e = .returned (.tuple #[.string ⟨(sealX key ad t).toArray⟩, .int .i64 (sealE key ad t)]) ∧ Below w.heap.size w w' := by
  unfold sealX sealE
  by_cases h : key.length = 32
  · by_cases h2 : 1048576 < ad.length ∨ 1048576 < t.length
    · rw [if_neg (fun e => e.2 h2), if_pos h, if_pos h2]
      exact seal_lim key ad t w hk h h2
    · rw [if_pos ⟨h, h2⟩, if_pos h, if_neg h2]
      exact seal_c key ad t w hk h (by omega) (by omega)
  · rw [if_neg (fun e => h e.1), if_neg h]
    exact seal_no key ad t w h
end Go.Proofs.YtackbjbmadkkhaaDoor
