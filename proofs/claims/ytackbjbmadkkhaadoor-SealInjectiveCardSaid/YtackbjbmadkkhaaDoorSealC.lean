/- The specification's sealing. -/
import Derived.Test.YtackbjbmadkkhaaDoorSealB
import Derived.Test.YtackbjbmadkkhaaDoorCipI
namespace Go.Proofs.YtackbjbmadkkhaaDoor
open Go.RowKit
set_option linter.unusedSimpArgs false
set_option linter.unusedVariables false
attribute [local irreducible] Calls mac encS
theorem xor1_r (key nonce text : List UInt8) (hk : key.length = 32) (hn : nonce.length = 12) (ht : text.length ≤ 100000) (w : World) :
    Calls Tryd.prog 23 #[.string ⟨key.toArray⟩, .int .u32 1, .string ⟨nonce.toArray⟩, .string ⟨text.toArray⟩] w fun e w' => e = .returned (.tuple #[.string ⟨(xorP key nonce text).toArray⟩, .int .i64 0]) ∧ Below w.heap.size w w' := by
  unfold xorP
  exact xorref_c key nonce text 1 hk hn ht w
attribute [local irreducible] encK macK
set_option maxRecDepth 100000 in
set_option maxHeartbeats 2000000 in
theorem nonce_r (m ad t : List UInt8) (w : World) (hk : K0At w) (hm : m.length = 32) (ha : ad.length ≤ 100000) (ht : t.length ≤ 100000) :
    Calls Tryd.prog 22 #[.string ⟨m.toArray⟩, .string ⟨ad.toArray⟩, .string ⟨t.toArray⟩] w fun e w' => e = .returned (.string ⟨(nonceP m ad t).toArray⟩) ∧ Below w.heap.size w w' := by
  have HK := Lib.hid hk
  have HM := Lib.hid hm
  have HA := Lib.hid ha
  have HT := Lib.hid ht
  have HEN := Lib.hid (encS_len ad)
  have q1 : ¬ 9223372036854775807 < 5 + (encS ad).length := by have := HEN.out; omega
  have q2 : ¬ 9223372036854775807 < 5 + (encS ad).length + t.length := by have := HEN.out; omega
  have HN : Hid (nonceP m ad t = (mac m ([110, 111, 110, 99, 101] ++ (encS ad ++ t))).take 12) := Lib.hid rfl
  have hml := mac_len m ([110, 111, 110, 99, 101] ++ (encS ad ++ t))
  have HML := Lib.hid hml
  clear hk hm ha ht hml
  go_enter Tryd.func22, Tryd.ntmps22
  go_wp2_with (first
    | (go_at_call 43; refine (bytes_r ad _ HA.out).mono ?_; rintro e w2 ⟨v2, rfl, ho2, hb2⟩; have HB2 := Lib.hid hb2; have hcv := conv_e ho2.rd; clear ho2 hb2)
    | (go_at_call 18; refine (mac_r m ([110, 111, 110, 99, 101] ++ (encS ad ++ t)) _ (HK.out.on HB2.out) (by rw [HM.out]; decide) (by have := HEN.out; have := HA.out; have := HT.out; simp; omega)).mono ?_; rintro e w3 ⟨rfl, hb3⟩; have HB3 := Lib.hid (HB2.out.trans (hb3.mono HB2.out.size)); clear hb3; generalize hmk : mac m ([110, 111, 110, 99, 101] ++ (encS ad ++ t)) = mk at HML HN ⊢; have hl32 : (ByteArray.mk mk.toArray).size = 32 := HML.out; clear hmk))
  go_ret
  exact ⟨by rw [HN.out]; rfl, HB3.out⟩
set_option maxRecDepth 100000 in
set_option maxHeartbeats 2000000 in
theorem tag_r (m n ad t : List UInt8) (w : World) (hk : K0At w) (hm : m.length = 32) (hn : n.length = 12) (ha : ad.length ≤ 100000) (ht : t.length ≤ 100000) :
    Calls Tryd.prog 24 #[.string ⟨m.toArray⟩, .string ⟨n.toArray⟩, .string ⟨ad.toArray⟩, .string ⟨t.toArray⟩] w fun e w' => e = .returned (.string ⟨(tagP m n ad t).toArray⟩) ∧ Below w.heap.size w w' := by
  have HK := Lib.hid hk
  have HM := Lib.hid hm
  have HA := Lib.hid ha
  have HT := Lib.hid ht
  have HN0 := Lib.hid hn
  have HEN := Lib.hid (encS_len ad)
  have q0 : ¬ 9223372036854775807 < 3 + n.length := by omega
  have q1 : ¬ 9223372036854775807 < 3 + n.length + (encS ad).length := by have := HEN.out; omega
  have q2 : ¬ 9223372036854775807 < 3 + n.length + (encS ad).length + t.length := by have := HEN.out; omega
  have q3 : ¬ 9223372036854775807 < 3 + (n.length + (encS ad).length) + t.length := by have := HEN.out; omega
  have q4 : ¬ 9223372036854775807 < 3 + (n.length + (encS ad).length) := by have := HEN.out; omega
  have HN : Hid (tagP m n ad t = (mac m ([116, 97, 103] ++ (n ++ (encS ad ++ t)))).take 16) := Lib.hid rfl
  have hml := mac_len m ([116, 97, 103] ++ (n ++ (encS ad ++ t)))
  have HML := Lib.hid hml
  clear hk hm ha ht hml hn
  go_enter Tryd.func24, Tryd.ntmps24
  go_wp2_with (first
    | (go_at_call 43; refine (bytes_r ad _ HA.out).mono ?_; rintro e w2 ⟨v2, rfl, ho2, hb2⟩; have HB2 := Lib.hid hb2; have hcv := conv_e ho2.rd; clear ho2 hb2)
    | (go_at_call 18; refine (mac_r m ([116, 97, 103] ++ (n ++ (encS ad ++ t))) _ (HK.out.on HB2.out) (by rw [HM.out]; decide) (by have := HEN.out; have := HA.out; have := HT.out; have := HN0.out; simp; omega)).mono ?_; rintro e w3 ⟨rfl, hb3⟩; have HB3 := Lib.hid (HB2.out.trans (hb3.mono HB2.out.size)); clear hb3; generalize hmk : mac m ([116, 97, 103] ++ (n ++ (encS ad ++ t))) = mk at HML HN ⊢; have hl32 : (ByteArray.mk mk.toArray).size = 32 := HML.out; clear hmk))
  go_ret
  exact ⟨by rw [HN.out]; rfl, HB3.out⟩
attribute [local irreducible] xorP nonceP tagP
set_option maxRecDepth 100000 in
set_option maxHeartbeats 2000000 in
theorem keys_r (key : List UInt8) (w : World) (hk : K0At w) (hl : key.length = 32) :
    Calls Tryd.prog 11 #[.string ⟨key.toArray⟩] w fun e w' => e = .returned (.tuple #[.string ⟨(encK key).toArray⟩, .string ⟨(macK key).toArray⟩, .int .i64 0]) ∧ Below w.heap.size w w' := by
  have HL := Lib.hid hl
  have HK := Lib.hid hk
  have i1 : ((key.length : Int) != 32) = false := by rw [hl]; rfl
  have HE : Hid (mac key [101, 110, 99] = encK key) := Lib.hid (by unfold encK; rfl)
  have HM : Hid (mac key [109, 97, 99] = macK key) := Lib.hid (by unfold macK; rfl)
  clear hk hl
  go_enter Tryd.func11, Tryd.ntmps11
  go_wp2_with (first
    | (go_at_call 18; refine (mac_r key [101, 110, 99] _ HK.out (by rw [HL.out]; decide) (by decide)).mono ?_; rintro e w1 ⟨rfl, hb1⟩; have HB1 := Lib.hid hb1; clear hb1; rw [HE.out])
    | (go_at_call 18; refine (mac_r key [109, 97, 99] _ (HK.out.on HB1.out) (by rw [HL.out]; decide) (by decide)).mono ?_; rintro e w2 ⟨rfl, hb2⟩; have HB2 := Lib.hid (HB1.out.trans (hb2.mono HB1.out.size)); clear hb2; rw [HM.out]))
  go_ret3
  exact ⟨rfl, HB2.out⟩
set_option maxRecDepth 100000 in
set_option maxHeartbeats 2000000 in
theorem keysr_no (key : List UInt8) (w : World) (hl : ¬ key.length = 32) :
    Calls Tryd.prog 11 #[.string ⟨key.toArray⟩] w fun e w' => e = .returned (.tuple #[.string ⟨#[]⟩, .string ⟨#[]⟩, .int .i64 1]) ∧ Below w.heap.size w w' := by
  have i1 : ((key.length : Int) != 32) = true := by simp; omega
  clear hl
  go_enter Tryd.func11, Tryd.ntmps11
  go_wp2
  go_ret3
  exact ⟨rfl, Below.refl _ _⟩
set_option maxRecDepth 100000 in
set_option maxHeartbeats 2000000 in
theorem seal_r (key ad t : List UInt8) (w : World) (hk : K0At w) (hl : key.length = 32) (ha : ad.length ≤ 100000) (ht : t.length ≤ 100000) :
    Calls Tryd.prog 13 #[.string ⟨key.toArray⟩, .string ⟨ad.toArray⟩, .string ⟨t.toArray⟩] w fun e w' => e = .returned (.tuple #[.string ⟨(sealP key ad t).toArray⟩, .int .i64 0]) ∧ Below w.heap.size w w' := by
  have HL := Lib.hid hl
  have HK := Lib.hid hk
  have HA := Lib.hid ha
  have HT := Lib.hid ht
  have i1 : ¬ (1048576 : Int) < ad.length := by omega
  have i2 : ¬ (1048576 : Int) < t.length := by omega
  have hs : sealP key ad t = nonceP (macK key) ad t ++ (xorP (encK key) (nonceP (macK key) ad t) t ++ tagP (macK key) (nonceP (macK key) ad t) ad (xorP (encK key) (nonceP (macK key) ad t) t)) := rfl
  have HS := Lib.hid hs
  have HEL := Lib.hid (encK_len key)
  have HML := Lib.hid (macK_len key)
  clear hl hk ha ht hs
  go_enter Tryd.func13, Tryd.ntmps13
  go_wp2_with (first
    | (go_at_call 11; refine (keys_r key _ HK.out HL.out).mono ?_; rintro e w2 ⟨rfl, hb1⟩; have HB2 := Lib.hid hb1; clear hb1; generalize hek : encK key = ek; generalize hmk : macK key = mk; have HEK := Lib.hid hek; have HMK := Lib.hid hmk; clear hek hmk)
    | (go_at_call 22; refine (nonce_r mk ad t w2 (HK.out.on HB2.out) (by rw [← HMK.out]; exact HML.out) HA.out HT.out).mono ?_; rintro e w3 ⟨rfl, hb3⟩; have HB3 := Lib.hid (HB2.out.trans (hb3.mono HB2.out.size)); clear hb3; generalize hn : nonceP mk ad t = nc; have HN := Lib.hid hn; have HNL : Hid (nc.length = 12) := (Lib.hid (by rw [← hn]; exact nonceP_len _ _ _)); clear hn)
    | (go_at_call 23; refine (xor1_r ek nc t (by rw [← HEK.out]; exact HEL.out) HNL.out HT.out _).mono ?_; rintro e w4 ⟨rfl, hb4⟩; have HB4 := Lib.hid (HB3.out.trans (hb4.mono HB3.out.size)); clear hb4; generalize hx : xorP ek nc t = xc; have HX := Lib.hid hx; have HXL : Hid (xc.length = t.length) := (Lib.hid (by rw [← hx]; exact xorP_len _ _ _)); clear hx; have q1 : ¬ 9223372036854775807 < nc.length + xc.length := (by rw [HNL.out, HXL.out]; have := HT.out; omega))
    | (go_at_call 24; refine (tag_r mk nc ad xc w4 (HK.out.on HB4.out) (by rw [← HMK.out]; exact HML.out) HNL.out HA.out (by rw [HXL.out]; exact HT.out)).mono ?_; rintro e w5 ⟨rfl, hb5⟩; have HB5 := Lib.hid (HB4.out.trans (hb5.mono HB4.out.size)); clear hb5; generalize htg : tagP mk nc ad xc = tg; have HTG := Lib.hid htg; have q2 : ¬ 9223372036854775807 < nc.length + xc.length + tg.length := (by rw [← htg, tagP_len, HNL.out, HXL.out]; have := HT.out; omega); clear htg))
  go_ret2
  exact ⟨by rw [HS.out, HEK.out, HMK.out, HN.out, HX.out, HTG.out]; rfl, HB5.out⟩
set_option maxRecDepth 100000 in
set_option maxHeartbeats 2000000 in
theorem sealr_no (key ad t : List UInt8) (w : World) (hl : ¬ key.length = 32) :
    Calls Tryd.prog 13 #[.string ⟨key.toArray⟩, .string ⟨ad.toArray⟩, .string ⟨t.toArray⟩] w fun e w' => e = .returned (.tuple #[.string ⟨#[]⟩, .int .i64 1]) ∧ Below w.heap.size w w' := by
  go_enter Tryd.func13, Tryd.ntmps13
  go_wp2_with (go_at_call 11; refine (keysr_no key _ hl).mono ?_; rintro e w1 ⟨rfl, hb1⟩)
  go_ret2
  exact ⟨rfl, hb1⟩
set_option maxRecDepth 100000 in
set_option maxHeartbeats 2000000 in
theorem openr_no (key ad t : List UInt8) (w : World) (hl : ¬ key.length = 32) :
    Calls Tryd.prog 15 #[.string ⟨key.toArray⟩, .string ⟨ad.toArray⟩, .string ⟨t.toArray⟩] w fun e w' => e = .returned (.tuple #[.string ⟨#[]⟩, .int .i64 1]) ∧ Below w.heap.size w w' := by
  go_enter Tryd.func15, Tryd.ntmps15
  go_wp2_with (go_at_call 11; refine (keysr_no key _ hl).mono ?_; rintro e w1 ⟨rfl, hb1⟩)
  go_ret2
  exact ⟨rfl, hb1⟩
set_option maxRecDepth 100000 in
set_option maxHeartbeats 2000000 in
theorem openr_short (key ad t : List UInt8) (w : World) (hk : K0At w) (hl : key.length = 32) (ha : ad.length ≤ 100000) (ht : t.length < 28) :
    Calls Tryd.prog 15 #[.string ⟨key.toArray⟩, .string ⟨ad.toArray⟩, .string ⟨t.toArray⟩] w fun e w' => e = .returned (.tuple #[.string ⟨#[]⟩, .int .i64 5]) ∧ Below w.heap.size w w' := by
  have i1 : ¬ (1048576 : Int) < ad.length := by omega
  have i2 : ¬ (1048604 : Int) < t.length := by omega
  have i3 : (t.length : Int) < 28 := by omega
  clear ha ht
  go_enter Tryd.func15, Tryd.ntmps15
  go_wp2_with (go_at_call 11; refine (keys_r key _ hk hl).mono ?_; rintro e w1 ⟨rfl, hb1⟩)
  go_ret2
  exact ⟨rfl, hb1⟩
set_option maxRecDepth 100000 in
set_option maxHeartbeats 2000000 in
theorem open_r (key ad t : List UInt8) (w : World) (hk : K0At w) (hl : key.length = 32) (ha : ad.length ≤ 100000) (ht : 28 ≤ t.length) (ht2 : t.length ≤ 100000) :
    Calls Tryd.prog 15 #[.string ⟨key.toArray⟩, .string ⟨ad.toArray⟩, .string ⟨t.toArray⟩] w fun e w' => e = .returned (openV (openP key ad t)) ∧ Below w.heap.size w w' := by
  have HL := Lib.hid hl
  have HK := Lib.hid hk
  have HA := Lib.hid ha
  have HT := Lib.hid ht2
  have HT1 := Lib.hid ht
  have i1 : ¬ (1048576 : Int) < ad.length := by omega
  have i2 : ¬ (1048604 : Int) < t.length := by omega
  have i3 : ¬ (t.length : Int) < 28 := by omega
  have hti : (28 : Int) ≤ t.length := by omega
  have hti2 : (t.length : Int) ≤ 100000 := by omega
  have HEL := Lib.hid (encK_len key)
  have HML := Lib.hid (macK_len key)
  clear hl hk ha
  go_enter Tryd.func15, Tryd.ntmps15
  go_upto_region 10 with (first
    | (go_at_call 11; refine (keys_r key _ HK.out HL.out).mono ?_; rintro e w3 ⟨rfl, hb1⟩; have HB3 := Lib.hid hb1; clear hb1; generalize hek : encK key = ek; generalize hmk : macK key = mk; have HEK := Lib.hid hek; have HMK := Lib.hid hmk; clear hek hmk))
  obtain ⟨nn, hnn⟩ : ∃ nn, bN t = nn := ⟨_, rfl⟩
  obtain ⟨cc, hcc⟩ : ∃ cc, bC t = cc := ⟨_, rfl⟩
  obtain ⟨tt, htt⟩ : ∃ tt, bT t = tt := ⟨_, rfl⟩
  have HNN := Lib.hid hnn
  have HCC := Lib.hid hcc
  have HTT := Lib.hid htt
  have HNL : Hid (nn.length = 12) := Lib.hid (by rw [← hnn]; unfold bN; rw [List.length_take]; omega)
  have HCL : Hid (cc.length ≤ 100000) := Lib.hid (by rw [← hcc]; unfold bC; rw [List.length_take, List.length_drop]; omega)
  have hft : (t.drop (t.length - 16)).take (t.length - (t.length - 16)) = tt := by
    rw [← htt]
    unfold bT
    exact List.take_of_length_le (by rw [List.length_drop]; exact Nat.le_refl _)
  unfold bN at hnn
  unfold bC at hcc
  rw [hnn, hcc]
  clear hnn hcc htt
  have HMKL : Hid (mk.length = 32) := Lib.hid (by rw [← HMK.out]; exact HML.out)
  have HEKL : Hid (ek.length = 32) := Lib.hid (by rw [← HEK.out]; exact HEL.out)
  have HFT := Lib.hid hft
  clear hft
  have HK3 := Lib.hid (HK.out.on HB3.out)
  refine allL (by kernel_rfl) (by kernel_rfl) ?_
  repeat (first
    | go_big_quiet_step ((go_at_call 24; exact Later.call _ (tag_r mk nn ad cc _ (HK3.out.on (Later.below _)) HMKL.out HNL.out HA.out HCL.out))))
  refine wpQuiet_nil ?_
  rintro _ ⟨u, rfl⟩
  have HB4 := Lib.hid (HB3.out.trans (u.below.mono HB3.out.size))
  generalize u.now = w4 at HB4 ⊢
  rw [HFT.out]
  generalize htg : tagP mk nn ad cc = tg
  have HTG := Lib.hid htg
  clear htg
  have HO : Hid (openP key ad t = if tg = tt ∧ nonceP mk ad (xorP ek nn cc) = nn then some (xorP ek nn cc) else none) := Lib.hid (by unfold openP; rw [HNN.out, HCC.out, HTT.out, HMK.out, HEK.out, HTG.out])
  by_cases hteq : tg = tt
  · have e1 : (!(tt == tg)) = false := by rw [hteq]; simp
    rw [e1]
    have HTE := Lib.hid hteq
    clear hteq e1
    go_upto_region 13 with (go_at_call 23; refine (xor1_r ek nn cc HEKL.out HNL.out HCL.out _).mono ?_; rintro e w5 ⟨rfl, hb5⟩; have HB5 := Lib.hid (HB4.out.trans (hb5.mono HB4.out.size)); clear hb5; generalize hx : xorP ek nn cc = xc at HO ⊢; have HXL : Hid (xc.length = cc.length) := (Lib.hid (by rw [← hx]; exact xorP_len _ _ _)); clear hx)
    generalize hnc : nonceP mk ad xc = n2 at HO
    have HNC := Lib.hid hnc
    clear hnc
    by_cases hneq : n2 = nn
    · have e2 : (n2 == nn) = true := by simpa using hneq
      have HNE := Lib.hid hneq
      clear hneq
      go_wp2_with (go_at_call 22; refine (nonce_r mk ad xc w5 (HK.out.on HB5.out) HMKL.out HA.out (by rw [HXL.out]; exact HCL.out)).mono ?_; rintro e w6 ⟨rfl, hb6⟩; have HB6 := Lib.hid (HB5.out.trans (hb6.mono HB5.out.size)); clear hb6; rw [HNC.out])
      go_ret2
      exact ⟨by rw [HO.out, if_pos ⟨HTE.out, HNE.out⟩]; rfl, HB6.out⟩
    · have e2 : (n2 == nn) = false := by simpa using hneq
      have HNE := Lib.hid hneq
      clear hneq
      go_wp2_with (go_at_call 22; refine (nonce_r mk ad xc w5 (HK.out.on HB5.out) HMKL.out HA.out (by rw [HXL.out]; exact HCL.out)).mono ?_; rintro e w6 ⟨rfl, hb6⟩; have HB6 := Lib.hid (HB5.out.trans (hb6.mono HB5.out.size)); clear hb6; rw [HNC.out])
      go_ret2
      exact ⟨by rw [HO.out, if_neg (fun h => HNE.out h.2)]; rfl, HB6.out⟩
  · have e1 : (!(tt == tg)) = true := by simp; exact fun e => hteq e.symm
    rw [e1]
    have HTE := Lib.hid hteq
    clear hteq
    go_wp2
    go_ret2
    exact ⟨by rw [HO.out, if_neg (fun h => HTE.out h.1)]; rfl, HB4.out⟩
set_option maxRecDepth 100000 in
set_option maxHeartbeats 2000000 in
theorem sealr_lim (key ad t : List UInt8) (w : World) (hk : K0At w) (hl : key.length = 32) (h : 1048576 < ad.length ∨ 1048576 < t.length) :
    Calls Tryd.prog 13 #[.string ⟨key.toArray⟩, .string ⟨ad.toArray⟩, .string ⟨t.toArray⟩] w fun e w' => e = .returned (.tuple #[.string ⟨#[]⟩, .int .i64 2]) ∧ Below w.heap.size w w' := by
  by_cases h1 : 1048576 < ad.length
  · have i1 : (1048576 : Int) < ad.length := by omega
    clear h h1
    go_enter Tryd.func13, Tryd.ntmps13
    go_wp2_with (go_at_call 11; refine (keys_r key _ hk hl).mono ?_; rintro e w1 ⟨rfl, hb1⟩)
    go_ret2
    exact ⟨rfl, hb1⟩
  · have i1 : ¬ (1048576 : Int) < ad.length := by omega
    have i2 : (1048576 : Int) < t.length := by omega
    clear h h1
    go_enter Tryd.func13, Tryd.ntmps13
    go_wp2_with (go_at_call 11; refine (keys_r key _ hk hl).mono ?_; rintro e w1 ⟨rfl, hb1⟩)
    go_ret2
    exact ⟨rfl, hb1⟩
set_option maxRecDepth 100000 in
set_option maxHeartbeats 2000000 in
theorem openr_lim (key ad t : List UInt8) (w : World) (hk : K0At w) (hl : key.length = 32) (h : 1048576 < ad.length ∨ 1048604 < t.length) :
    Calls Tryd.prog 15 #[.string ⟨key.toArray⟩, .string ⟨ad.toArray⟩, .string ⟨t.toArray⟩] w fun e w' => e = .returned (.tuple #[.string ⟨#[]⟩, .int .i64 2]) ∧ Below w.heap.size w w' := by
  by_cases h1 : 1048576 < ad.length
  · have i1 : (1048576 : Int) < ad.length := by omega
    clear h h1
    go_enter Tryd.func15, Tryd.ntmps15
    go_wp2_with (go_at_call 11; refine (keys_r key _ hk hl).mono ?_; rintro e w1 ⟨rfl, hb1⟩)
    go_ret2
    exact ⟨rfl, hb1⟩
  · have i1 : ¬ (1048576 : Int) < ad.length := by omega
    have i2 : (1048604 : Int) < t.length := by omega
    clear h h1
    go_enter Tryd.func15, Tryd.ntmps15
    go_wp2_with (go_at_call 11; refine (keys_r key _ hk hl).mono ?_; rintro e w1 ⟨rfl, hb1⟩)
    go_ret2
    exact ⟨rfl, hb1⟩
/-- lengths at which the specification is walked -/
def RefOK (key ad t : List UInt8) : Prop := key.length = 32 → (ad.length ≤ 100000 ∧ t.length ≤ 100000) ∨ 1048604 < ad.length ∨ 1048604 < t.length
theorem keys_rt (key : List UInt8) (w : World) (hk : K0At w) :
    Calls Tryd.prog 11 #[.string ⟨key.toArray⟩] w fun e w' => e = .returned (.tuple #[.string ⟨(keysA key).toArray⟩, .string ⟨(keysB key).toArray⟩, .int .i64 (keysE key)]) ∧ Below w.heap.size w w' := by
  unfold keysA keysB keysE
  by_cases h : key.length = 32
  · rw [if_pos h, if_pos h, if_pos h]
    exact keys_r key w hk h
  · rw [if_neg h, if_neg h, if_neg h]
    exact keysr_no key w h
theorem seal_rt (key ad t : List UInt8) (w : World) (hk : K0At w) (hr : RefOK key ad t) :
    Calls Tryd.prog 13 #[.string ⟨key.toArray⟩, .string ⟨ad.toArray⟩, .string ⟨t.toArray⟩] w fun e w' => e = .returned (.tuple #[.string ⟨(sealX key ad t).toArray⟩, .int .i64 (sealE key ad t)]) ∧ Below w.heap.size w w' := by
  unfold sealX sealE
  by_cases h : key.length = 32
  · have hr := hr h
    by_cases h2 : 1048576 < ad.length ∨ 1048576 < t.length
    · rw [if_neg (fun e => e.2 h2), if_pos h, if_pos h2]
      exact sealr_lim key ad t w hk h h2
    · rw [if_pos ⟨h, h2⟩, if_pos h, if_neg h2]
      exact seal_r key ad t w hk h (by omega) (by omega)
  · rw [if_neg (fun e => h e.1), if_neg h]
    exact sealr_no key ad t w h
theorem open_rt (key ad t : List UInt8) (w : World) (hk : K0At w) (hr : RefOK key ad t) :
    Calls Tryd.prog 15 #[.string ⟨key.toArray⟩, .string ⟨ad.toArray⟩, .string ⟨t.toArray⟩] w fun e w' => e = .returned (.tuple #[.string ⟨(openX key ad t).toArray⟩, .int .i64 (openE key ad t)]) ∧ Below w.heap.size w w' := by
  unfold openX openE
  by_cases h : key.length = 32
  · have hr := hr h
    by_cases h2 : 1048576 < ad.length ∨ 1048604 < t.length
    · rw [if_neg (fun e => e.2.1 h2), if_pos h, if_pos h2]
      exact openr_lim key ad t w hk h h2
    · by_cases h3 : t.length < 28
      · rw [if_neg (fun e => e.2.2 h3), if_pos h, if_neg h2, if_pos h3]
        exact openr_short key ad t w hk h (by omega) h3
      · rw [if_pos ⟨h, h2, h3⟩, if_pos h, if_neg h2, if_neg h3, ← openV_eq]
        exact open_r key ad t w hk h (by omega) (by omega) (by omega)
  · rw [if_neg (fun e => h e.1), if_neg h]
    exact openr_no key ad t w h
end Go.Proofs.YtackbjbmadkkhaaDoor
