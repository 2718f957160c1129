/- Parts of a proof, joined: contracts of functions of the program and plain lemmas (SealB, BakB, BakC, KeyM, KeyN, PureC3b, SealP, BakD, RefD). No condition. -/
import Derived.Test.YtbpjdfnnlmblaaaGreatDoorMA08
import Derived.Deep.MidRow
import Derived.ChangeKeysEq
import Derived.Laws.Tables
/- The program's Open. -/
namespace Go.Proofs.YtbpjdfnnlmblaaaGreatDoor
open Go.RowKit
set_option linter.unusedSimpArgs false
set_option linter.unusedVariables false
theorem cells_of (w : World) (bk : Nat) (xs : List (List UInt8)) (T : TypeId) (hg : w.heap[bk]? = some (.cells (xs.map (fun x => Value.string ⟨x.toArray⟩)).toArray T (0, 0))) : ∀ (j : Nat) x, xs[j]? = some x → w.cell? ⟨bk, j, none⟩ = some (.string ⟨x.toArray⟩) := by
  intro j x hx
  rw [cell_of_row _ _ _ _ _ _ hg]
  simp [hx]
theorem tag_h (m n ad c : List UInt8) (bk : Nat) (w : World) (T : TypeId) (hk : KAt w) (hm : m.length = 32) (hn : n.length ≤ 2000000) (ha : ad.length ≤ 2000000) (hc : c.length ≤ 2000000)
    (hg : w.heap[bk]? = some (.cells #[.string ⟨#[116, 97, 103]⟩, .string ⟨n.toArray⟩, .string ⟨(encS ad).toArray⟩, .string ⟨c.toArray⟩] T (0, 0))) :
    Calls Tryz.prog 60 #[.string ⟨m.toArray⟩, .int .i64 16, .slice (some ⟨bk, 0, none⟩) 4 4] w fun e w' => e = .returned (.string ⟨(tagP m n ad c).toArray⟩) ∧ Below w.heap.size w w' := by
  have h := code_c m 16 bk [[116, 97, 103], n, encS ad, c] w hk (by decide) (by omega) (cells_of w bk [[116, 97, 103], n, encS ad, c] T hg) (Array.getElem?_eq_some_iff.1 hg).1 (by simp) (by have := encS_len ad; simp; omega)
  have e : [[116, 97, 103], n, encS ad, c].flatten = [116, 97, 103] ++ (n ++ (encS ad ++ c)) := by simp
  rw [e] at h
  exact h
/-- a slice over a block of this content, made here -/
def SP.freshS (B : Nat) (n : Nat) (cs : Array Value) (T : TypeId) : SP :=
  .pred (fun v w => ∃ g : Nat, v = .slice (some ⟨g, 0, none⟩) n n ∧ B ≤ g ∧ w.heap[g]? = some (.cells cs T (0, 0)))
    (fun v w w' hb ⟨g, e, h1, h2⟩ => ⟨g, e, h1, by rw [hb.block _ (Array.getElem?_eq_some_iff.1 h2).1]; exact h2⟩)
/-- what Open answers -/
def openV : Option (List UInt8) → Value
  | some x => .tuple #[.string ⟨x.toArray⟩, .int .i64 0]
  | none => .tuple #[.string ⟨#[]⟩, .int .i64 8]
attribute [local irreducible] Calls mac encS nonceP tagP xorP encK macK
set_option maxRecDepth 100000 in
set_option maxHeartbeats 2000000 in
theorem open_no (key ad t : List UInt8) (w : World) (hl : ¬ key.length = 32) :
    Calls Tryz.prog 51 #[.string ⟨key.toArray⟩, .string ⟨ad.toArray⟩, .string ⟨t.toArray⟩] w fun e w' => e = .returned (.tuple #[.string ⟨#[]⟩, .int .i64 1]) ∧ Below w.heap.size w w' := by
  go_enter Tryz.func51, Tryz.ntmps51
  go_wp2_with (go_at_call 59; refine (keys_no key _ hl).mono ?_; rintro e w1 ⟨rfl, hb1⟩)
  go_ret2
  exact ⟨rfl, hb1⟩
set_option maxRecDepth 100000 in
set_option maxHeartbeats 2000000 in
theorem open_short (key ad t : List UInt8) (w : World) (hk : KAt w) (hl : key.length = 32) (ha : ad.length ≤ 1048576) (ht : t.length < 28) :
    Calls Tryz.prog 51 #[.string ⟨key.toArray⟩, .string ⟨ad.toArray⟩, .string ⟨t.toArray⟩] w fun e w' => e = .returned (.tuple #[.string ⟨#[]⟩, .int .i64 5]) ∧ Below w.heap.size w w' := by
  have i1 : ¬ (1048576 : Int) < ad.length := by omega
  have i2 : ¬ (1048604 : Int) < t.length := by omega
  have i3 : (t.length : Int) < 28 := by omega
  clear ha ht
  go_enter Tryz.func51, Tryz.ntmps51
  go_wp2_with (go_at_call 59; refine (keys_c key _ hk hl).mono ?_; rintro e w1 ⟨rfl, hb1⟩)
  go_ret2
  exact ⟨rfl, hb1⟩
set_option maxRecDepth 100000 in
set_option maxHeartbeats 2000000 in
theorem open_lim (key ad t : List UInt8) (w : World) (hk : KAt w) (hl : key.length = 32) (h : 1048576 < ad.length ∨ 1048604 < t.length) :
    Calls Tryz.prog 51 #[.string ⟨key.toArray⟩, .string ⟨ad.toArray⟩, .string ⟨t.toArray⟩] w fun e w' => e = .returned (.tuple #[.string ⟨#[]⟩, .int .i64 2]) ∧ Below w.heap.size w w' := by
  by_cases h1 : 1048576 < ad.length
  · have i1 : (1048576 : Int) < ad.length := by omega
    clear h h1
    go_enter Tryz.func51, Tryz.ntmps51
    go_wp2_with (go_at_call 59; refine (keys_c key _ hk hl).mono ?_; rintro e w1 ⟨rfl, hb1⟩)
    go_ret2
    exact ⟨rfl, hb1⟩
  · have i1 : ¬ (1048576 : Int) < ad.length := by omega
    have i2 : (1048604 : Int) < t.length := by omega
    clear h h1
    go_enter Tryz.func51, Tryz.ntmps51
    go_wp2_with (go_at_call 59; refine (keys_c key _ hk hl).mono ?_; rintro e w1 ⟨rfl, hb1⟩)
    go_ret2
    exact ⟨rfl, hb1⟩
set_option maxRecDepth 100000 in
set_option maxHeartbeats 2000000 in
theorem open_c (key ad t : List UInt8) (w : World) (hk : KAt w) (hl : key.length = 32) (ha : ad.length ≤ 1048576) (ht : 28 ≤ t.length) (ht2 : t.length ≤ 1048604) :
    Calls Tryz.prog 51 #[.string ⟨key.toArray⟩, .string ⟨ad.toArray⟩, .string ⟨t.toArray⟩] w fun e w' => e = .returned (openV (openP key ad t)) ∧ Below w.heap.size w w' := by
  have HL := Lib.hid hl
  have HK := Lib.hid hk
  have HA := Lib.hid ha
  have HT := Lib.hid ht2
  have HT1 := Lib.hid ht
  have i1 : ¬ (1048576 : Int) < ad.length := by omega
  have i2 : ¬ (1048604 : Int) < t.length := by omega
  have i3 : ¬ (t.length : Int) < 28 := by omega
  have hti : (28 : Int) ≤ t.length := by omega
  have hti2 : (t.length : Int) ≤ 1048604 := by omega
  have HEL := Lib.hid (encK_len key)
  have HML := Lib.hid (macK_len key)
  have HEN := Lib.hid (encS_len ad)
  clear hl hk ha
  go_enter Tryz.func51, Tryz.ntmps51
  go_upto_region 9 with (first
    | (go_at_call 59; refine (keys_c key _ HK.out HL.out).mono ?_; rintro e w1 ⟨rfl, hb1⟩; have HB1 := Lib.hid hb1; clear hb1; generalize hek : encK key = ek; generalize hmk : macK key = mk; have HEK := Lib.hid hek; have HMK := Lib.hid hmk; clear hek hmk)
    | (go_at_call 28; refine (bytes_c ad _ (by have := HA.out; omega)).mono ?_; rintro e w2 ⟨v2, rfl, ho2, hb2⟩; have HB2 := Lib.hid (HB1.out.trans (hb2.mono HB1.out.size)); have hcv := conv_e ho2.rd; clear ho2 hb2))
  refine all0 (by kernel_rfl) (by kernel_rfl) ?_
  repeat (go_big_quiet_step (fail))
  refine wpQuiet_nil ?_
  rintro _ ⟨nq, rfl⟩
  go_upto_region 10 with fail
  have HKN : Hid (KAt (w2.drewN nq)) := Lib.hid (HK.out.on (below_drewN nq HB2.out))
  have HBN : Hid (Below w.heap.size w (w2.drewN nq)) := Lib.hid (below_drewN nq HB2.out)
  generalize w2.drewN nq = w3 at HKN HBN ⊢
  obtain ⟨nn, hnn⟩ : ∃ nn, bN t = nn := ⟨_, rfl⟩
  obtain ⟨cc, hcc⟩ : ∃ cc, bC t = cc := ⟨_, rfl⟩
  obtain ⟨tt, htt⟩ : ∃ tt, bT t = tt := ⟨_, rfl⟩
  have HNN := Lib.hid hnn
  have HCC := Lib.hid hcc
  have HTT := Lib.hid htt
  have HNL : Hid (nn.length = 12) := Lib.hid (by rw [← hnn]; unfold bN; rw [List.length_take]; omega)
  have HCL : Hid (cc.length ≤ 1048604) := Lib.hid (by rw [← hcc]; unfold bC; rw [List.length_take, List.length_drop]; omega)
  have hft : (t.drop (t.length - 16)).take (t.length - (t.length - 16)) = tt := by
    rw [← htt]
    unfold bT
    exact List.take_of_length_le (by rw [List.length_drop]; exact Nat.le_refl _)
  have hft2 : t.drop (t.length - 16) = tt := htt
  unfold bN at hnn
  unfold bC at hcc
  rw [hnn, hcc]
  clear hnn hcc htt
  have HMKL : Hid (mk.length = 32) := Lib.hid (by rw [← HMK.out]; exact HML.out)
  have HEKL : Hid (ek.length = 32) := Lib.hid (by rw [← HEK.out]; exact HEL.out)
  refine region_rel 9 [[], [], [], [], [1, 2, 3], [0, 4], [], [], [6, 7]] (SP.of [.eq (.string ⟨mk.toArray⟩), .eq (.string ⟨nn.toArray⟩), .eq (.string ⟨(encS ad).toArray⟩), .eq (.string ⟨cc.toArray⟩), .freshS w3.heap.size 4 #[.string ⟨#[116, 97, 103]⟩, .string ⟨nn.toArray⟩, .string ⟨(encS ad).toArray⟩, .string ⟨cc.toArray⟩] 9, .eq (.string ⟨(tagP mk nn ad cc).toArray⟩), .eq (.string ⟨t.toArray⟩), .eq (.int .i64 ((t.length : Int) - 16)), .eq (.string ⟨tt.toArray⟩)]) (fun _ => undef) ?h1 ?h2 ?h3 ?h4 ?h5 ?h6
  case h1 => kernel_rfl
  case h2 => kernel_rfl
  case h3 => kernel_rfl
  case h4 =>
    simp only [List.take_succ_cons, List.take_zero]
    repeat (first | exact trivial | refine ⟨fun vals v => by kernel_rfl, ?_⟩)
  case h5 =>
    simp only [List.take_succ_cons, List.take_zero]
    refine ⟨?_, ?_, ?_, ?_, ?_, ?_, ?_, ?_, ?_, trivial⟩
    all_goals (intro wq hbq vals; simp only [given, SP.of, SP.freshS, Nat.reduceAdd, Nat.zero_add, List.getD_cons_succ, List.getD_cons_zero]; have HBQ := Lib.hid hbq; clear hbq)
    case refine_5 =>
      intro Q hQ; simp only [putAll, upd, Act.put, List.setIfInBounds_toArray, List.set_cons_zero, List.set_cons_succ, Nat.reduceAdd, Nat.zero_add, Nat.reduceEqDiff, if_true, if_false, reduceIte]
      go_wp2
      exact relEnd_fin hQ _ (by kernel_rfl) ((Below.refl _ _).alloc (Nat.le_refl _) _) ⟨wq.heap.size, rfl, HBQ.out.size, heap_last _ _ _ rfl⟩
    case refine_6 =>
      rintro _ ⟨g, rfl, hg1, hg2⟩ Q hQ
      simp only [putAll, upd, Act.put, List.setIfInBounds_toArray, List.set_cons_zero, List.set_cons_succ, Nat.reduceAdd, Nat.zero_add, Nat.reduceEqDiff, if_true, if_false, reduceIte]
      have HG2 := Lib.hid hg2
      clear hg1 hg2
      go_wp2_with (go_at_call 60; refine (tag_h mk nn ad cc g _ _ (HKN.out.on HBQ.out) HMKL.out (by rw [HNL.out]; decide) (by have := HA.out; omega) (by have := HCL.out; omega) HG2.out).mono ?_; rintro e x1 ⟨rfl, hx1⟩)
      exact relEnd_fin hQ _ (by kernel_rfl) hx1 rfl
    case refine_9 =>
      intro Q hQ; simp only [putAll, upd, Act.put, List.setIfInBounds_toArray, List.set_cons_zero, List.set_cons_succ, Nat.reduceAdd, Nat.zero_add, Nat.reduceEqDiff, if_true, if_false, reduceIte]
      have HFT := Lib.hid hft
      clear hft hft2
      go_wp2
      rw [HFT.out]
      exact relEnd_fin hQ _ (by kernel_rfl) (Below.refl _ _) rfl
    all_goals (intro Q hQ; simp only [putAll, upd, Act.put, List.setIfInBounds_toArray, List.set_cons_zero, List.set_cons_succ, Nat.reduceAdd, Nat.zero_add, Nat.reduceEqDiff, if_true, if_false, reduceIte])
    all_goals go_wp2
    all_goals exact relEnd_fin hQ _ (by kernel_rfl) (Below.refl _ _) rfl
  case h6 =>
    intro w4 hb4 vals
    show given _ _ _ [0, 1, 2, 3, 4, 5, 6, 7, 8] _
    simp only [given, SP.of, SP.freshS, List.getD_cons_succ, List.getD_cons_zero]
    rintro _ ⟨g, rfl, hg1, hg2⟩
    simp only [List.take_succ_cons, List.take_zero, List.drop_succ_cons, List.drop_zero]
    simp only [putAll, upd, Act.put, List.setIfInBounds_toArray, List.set_cons_zero, List.set_cons_succ, Nat.reduceAdd, Nat.zero_add, Nat.reduceEqDiff, if_true, if_false, reduceIte]
    have HB4 := Lib.hid (HBN.out.trans (hb4.mono HBN.out.size))
    clear hb4 hg1 hg2
    generalize htg : tagP mk nn ad cc = tg
    have HTG := Lib.hid htg
    clear htg hft hft2
    have HO : Hid (openP key ad t = if tg = tt ∧ nonceP mk ad (xorP ek nn cc) = nn then some (xorP ek nn cc) else none) := Lib.hid (by unfold openP; rw [HNN.out, HCC.out, HTT.out, HMK.out, HEK.out, HTG.out])
    by_cases hteq : tg = tt
    · have e1 : (tg == tt) = true := by simpa using hteq
      have HTE := Lib.hid hteq
      clear hteq
      go_upto_region 13 with (go_at_call 61; refine (xor1_c ek nn cc HEKL.out HNL.out (by have := HCL.out; omega) _).mono ?_; rintro e w5 ⟨rfl, hb5⟩; have HB5 := Lib.hid (HB4.out.trans (hb5.mono HB4.out.size)); clear hb5; generalize hx : xorP ek nn cc = xc at HO ⊢; have HXL : Hid (xc.length = cc.length) := (Lib.hid (by rw [← hx]; exact xorP_len _ _ _)); clear hx)
      generalize hnc : nonceP mk ad xc = n2 at HO
      have HNC := Lib.hid hnc
      clear hnc
      by_cases hneq : n2 = nn
      · have e2 : (n2 == nn) = true := by simpa using hneq
        have HNE := Lib.hid hneq
        clear hneq
        go_wp2_with (go_at_call 60; refine (nonce_c mk ad xc w5 (HK.out.on HB5.out) HMKL.out (by have := HA.out; omega) (by rw [HXL.out]; have := HCL.out; omega)).mono ?_; rintro e w6 ⟨rfl, hb6⟩; have HB6 := Lib.hid (HB5.out.trans (hb6.mono HB5.out.size)); clear hb6; rw [HNC.out])
        go_ret2
        exact ⟨by rw [HO.out, if_pos ⟨HTE.out, HNE.out⟩]; rfl, HB6.out⟩
      · have e2 : (n2 == nn) = false := by simpa using hneq
        have HNE := Lib.hid hneq
        clear hneq
        go_wp2_with (go_at_call 60; refine (nonce_c mk ad xc w5 (HK.out.on HB5.out) HMKL.out (by have := HA.out; omega) (by rw [HXL.out]; have := HCL.out; omega)).mono ?_; rintro e w6 ⟨rfl, hb6⟩; have HB6 := Lib.hid (HB5.out.trans (hb6.mono HB5.out.size)); clear hb6; rw [HNC.out])
        go_ret2
        exact ⟨by rw [HO.out, if_neg (fun h => HNE.out h.2)]; rfl, HB6.out⟩
    · have e1 : (tg == tt) = false := by simpa using hteq
      have HTE := Lib.hid hteq
      clear hteq
      go_wp2
      go_ret2
      exact ⟨by rw [HO.out, if_neg (fun h => HTE.out h.1)]; rfl, HB4.out⟩
/-- the answers, whatever the lengths are -/
def openX (key ad t : List UInt8) : List UInt8 := if key.length = 32 ∧ ¬ (1048576 < ad.length ∨ 1048604 < t.length) ∧ ¬ t.length < 28 then (openP key ad t).getD [] else []
def openE (key ad t : List UInt8) : Int := if key.length = 32 then (if 1048576 < ad.length ∨ 1048604 < t.length then 2 else if t.length < 28 then 5 else if (openP key ad t).isSome then 0 else 8) else 1
theorem openV_eq (o : Option (List UInt8)) : openV o = .tuple #[.string ⟨(o.getD []).toArray⟩, .int .i64 (if o.isSome then 0 else 8)] := by
  cases o <;> rfl
theorem open_t (key ad t : List UInt8) (w : World) (hk : KAt w) :
    Calls Tryz.prog 51 #[.string ⟨key.toArray⟩, .string ⟨ad.toArray⟩, .string ⟨t.toArray⟩] w fun e w' => e = .returned (.tuple #[.string ⟨(openX key ad t).toArray⟩, .int .i64 (openE key ad t)]) ∧ Below w.heap.size w w' := by
  unfold openX openE
  by_cases h : key.length = 32
  · by_cases h2 : 1048576 < ad.length ∨ 1048604 < t.length
    · rw [if_neg (fun e => e.2.1 h2), if_pos h, if_pos h2]
      exact open_lim key ad t w hk h h2
    · by_cases h3 : t.length < 28
      · rw [if_neg (fun e => e.2.2 h3), if_pos h, if_neg h2, if_pos h3]
        exact open_short key ad t w hk h (by omega) h3
      · rw [if_pos ⟨h, h2, h3⟩, if_pos h, if_neg h2, if_neg h3, ← openV_eq]
        exact open_c key ad t w hk h (by omega) (by omega) (by omega)
  · rw [if_neg (fun e => h e.1), if_neg h]
    exact open_no key ad t w h
end Go.Proofs.YtbpjdfnnlmblaaaGreatDoor
/- The header of a backup. -/
namespace Go.Proofs.YtbpjdfnnlmblaaaGreatDoor
open Go.RowKit Go.Shelf
set_option linter.unusedSimpArgs false
set_option linter.unusedVariables false
/-- the header as bytes -/
def headP (b : BK) : List UInt8 := b.dom ++ (encIs [b.ep, b.num, b.fw, b.tm] ++ (b.pol ++ encS b.mo))
/-- what a backup's numbers are by their types -/
structure BK.wf (b : BK) : Prop where
  dom : b.dom.length = 16
  pol : b.pol.length = 16
  nums : ∀ x ∈ [b.ep, b.num, b.fw, b.tm], okI x
  mo : b.mo.length ≤ 800000
theorem bcdom_at (b : BK) (v : Value) (i : Nat) (hi : i < 16) : (bc b v)[i]? = some (dcell b.dom i) := by
  rcases (by omega : i = 0 ∨ i = 1 ∨ i = 2 ∨ i = 3 ∨ i = 4 ∨ i = 5 ∨ i = 6 ∨ i = 7 ∨ i = 8 ∨ i = 9 ∨ i = 10 ∨ i = 11 ∨ i = 12 ∨ i = 13 ∨ i = 14 ∨ i = 15) with rfl | rfl | rfl | rfl | rfl | rfl | rfl | rfl | rfl | rfl | rfl | rfl | rfl | rfl | rfl | rfl
  · exact bc_0 b v
  · exact bc_1 b v
  · exact bc_2 b v
  · exact bc_3 b v
  · exact bc_4 b v
  · exact bc_5 b v
  · exact bc_6 b v
  · exact bc_7 b v
  · exact bc_8 b v
  · exact bc_9 b v
  · exact bc_10 b v
  · exact bc_11 b v
  · exact bc_12 b v
  · exact bc_13 b v
  · exact bc_14 b v
  · exact bc_15 b v
theorem bcpol_at (b : BK) (v : Value) (i : Nat) (hi : i < 16) : (bc b v)[20 + i]? = some (dcell b.pol i) := by
  rcases (by omega : i = 0 ∨ i = 1 ∨ i = 2 ∨ i = 3 ∨ i = 4 ∨ i = 5 ∨ i = 6 ∨ i = 7 ∨ i = 8 ∨ i = 9 ∨ i = 10 ∨ i = 11 ∨ i = 12 ∨ i = 13 ∨ i = 14 ∨ i = 15) with rfl | rfl | rfl | rfl | rfl | rfl | rfl | rfl | rfl | rfl | rfl | rfl | rfl | rfl | rfl | rfl
  · exact bc_20 b v
  · exact bc_21 b v
  · exact bc_22 b v
  · exact bc_23 b v
  · exact bc_24 b v
  · exact bc_25 b v
  · exact bc_26 b v
  · exact bc_27 b v
  · exact bc_28 b v
  · exact bc_29 b v
  · exact bc_30 b v
  · exact bc_31 b v
  · exact bc_32 b v
  · exact bc_33 b v
  · exact bc_34 b v
  · exact bc_35 b v
/-- bytes that lie in an array -/
theorem arr_rd {w : World} {g off : Nat} {d : List UInt8} (hd : d.length = 16) (hg : g < w.heap.size) (hc : ∀ i, i < 16 → w.cell? ⟨g, off + i, none⟩ = some (dcell d i)) : RdE eB w (.slice (some ⟨g, off, none⟩) 16 16) d := by
  refine ⟨_, 16, by rw [hd], by omega, by unfold maxLen; omega, fun _ => ⟨g, off, rfl, hg, fun j u hu => ?_⟩⟩
  have hj : j < d.length := by rw [flat_b] at hu; have := (List.getElem?_eq_some_iff.1 hu).1; rwa [bcs_len] at this
  rw [eB_flat d j hj] at hu
  cases hu
  exact hc j (by omega)
/-- a list that was built -/
theorem row_e {α : Type} {E : El α} {w : World} {g : Nat} {cs : Array Value} {T : TypeId} {fr : Nat × Nat} (hg : w.heap[g]? = some (.cells cs T fr)) (l : List α) (hcs : cs.toList = E.flat l) (hl : l.length ≤ 1000000) :
    RdE E w (.slice (some ⟨g, 0, none⟩) l.length l.length) l :=
  ⟨_, _, rfl, Nat.le_refl _, by unfold maxLen; omega, fun _ => ⟨g, 0, rfl, (Array.getElem?_eq_some_iff.1 hg).1, fun j u hu => by
    rw [cell_of_row _ _ _ _ _ _ hg, Nat.zero_add, ← hu, ← hcs, Array.getElem?_toList]⟩⟩
/-- bytes that the call has made -/
def SP.ownB (B : Nat) (l : List UInt8) : SP := .pred (fun v w => OwnE eB w B v l) (fun _ _ _ hb h => h.on hb)
theorem headP_flat (b : BK) : headP b = [b.dom, encIs [b.ep, b.num, b.fw, b.tm], b.pol, encS b.mo].flatten := by unfold headP; simp
theorem encIs4 (a b c d : Int) : (encIs [a, b, c, d]).length ≤ 45 := by
  unfold encIs encL catE
  have h0 := encI_le (([a, b, c, d] : List Int).length : Int)
  have h1 := encI_le a
  have h2 := encI_le b
  have h3 := encI_le c
  have h4 := encI_le d
  rw [List.length_append]
  simp only [List.map_cons, List.map_nil, List.flatten_cons, List.flatten_nil, List.length_append, List.length_nil]
  omega
theorem headP_len (b : BK) (h : b.wf) : 16 < (headP b).length ∧ (headP b).length ≤ b.mo.length + 100 := by
  unfold headP
  have h1 := encIs4 b.ep b.num b.fw b.tm
  have h2 := encS_len b.mo
  have h3 := encIs_pos [b.ep, b.num, b.fw, b.tm]
  rw [List.length_append, List.length_append, List.length_append, h.dom, h.pol]
  omega
attribute [local irreducible] Calls encI encS encIs headP
set_option maxRecDepth 100000 in
set_option maxHeartbeats 4000000 in
theorem header_c (b : BK) (u : Value) (w : World) (hb : b.wf) :
    Calls Tryz.prog 16 #[.agg (bc b u)] w fun e w' => e = .returned (.string ⟨(headP b).toArray⟩) ∧ Below w.heap.size w w' := by
  have HWF := Lib.hid hb
  have HHL := Lib.hid (headP_len b hb)
  obtain ⟨W0, hW0⟩ : ∃ W0, W0 = w.alloc (.cells (bc b u) 26) := ⟨_, rfl⟩
  have HBX : Hid (∀ w1, Below W0.heap.size W0 w1 → ∀ j, w1.cell? ⟨w.heap.size, j, none⟩ = (bc b u)[j]?) := Lib.hid (by
    intro w1 h j
    rw [hW0] at h
    exact boxed1 _ _ _ h j)
  have HBE : Hid (∀ w1, Below W0.heap.size W0 w1 → Below w.heap.size w w1) := Lib.hid (by
    intro w1 h
    rw [hW0] at h
    exact below1 _ _ h)
  have HSZ : Hid (w.heap.size < W0.heap.size) := Lib.hid (by rw [hW0]; simp)
  have HW := Lib.hid hW0
  clear hb hW0
  go_enter Tryz.func16, Tryz.ntmps16
  go_upto_region 1 with fail
  rw [← HW.out]
  refine region_rel 17 [[], [0], [], [2], [], [4], [], [6], [], [8], [3, 5, 7, 9], [10], [], [12], [], [14], [15]]
    (SP.of [.eq (.pointer (some ⟨w.heap.size, 0, none⟩)), .eq (.slice (some ⟨w.heap.size, 0, none⟩) 16 16), .eq (.pointer (some ⟨w.heap.size, 16, none⟩)), .eq (.int .i64 b.ep), .eq (.pointer (some ⟨w.heap.size, 17, none⟩)), .eq (.int .i64 b.num),
      .eq (.pointer (some ⟨w.heap.size, 18, none⟩)), .eq (.int .i64 b.fw), .eq (.pointer (some ⟨w.heap.size, 19, none⟩)), .eq (.int .i64 b.tm), .freshS W0.heap.size 4 #[.int .i64 b.ep, .int .i64 b.num, .int .i64 b.fw, .int .i64 b.tm] 3, .ownB W0.heap.size (encIs [b.ep, b.num, b.fw, b.tm]),
      .eq (.pointer (some ⟨w.heap.size, 20, none⟩)), .eq (.slice (some ⟨w.heap.size, 20, none⟩) 16 16), .eq (.pointer (some ⟨w.heap.size, 36, none⟩)), .eq (.string ⟨b.mo.toArray⟩), .ownB W0.heap.size (encS b.mo)]) (fun _ => undef) ?h1 ?h2 ?h3 ?h4 ?h5 ?h6
  case h1 => kernel_rfl
  case h2 => kernel_rfl
  case h3 => kernel_rfl
  case h4 =>
    simp only [List.take_succ_cons, List.take_zero]
    repeat (first | exact trivial | refine ⟨fun vals v => by kernel_rfl, ?_⟩)
  case h5 =>
    simp only [List.take_succ_cons, List.take_zero]
    refine ⟨?_, ?_, ?_, ?_, ?_, ?_, ?_, ?_, ?_, ?_, ?_, ?_, ?_, ?_, ?_, ?_, ?_, trivial⟩
    all_goals (intro wq hbq vals; simp only [given, SP.of, SP.freshS, SP.ownB, Nat.reduceAdd, Nat.zero_add, List.getD_cons_succ, List.getD_cons_zero]; have HBQ := Lib.hid hbq; have HCQ := Lib.hid (HBX.out wq hbq); have hzq : w.heap.size < wq.heap.size := Nat.lt_of_lt_of_le HSZ.out hbq.size; clear hbq)
    case refine_12 =>
      rintro _ ⟨g, rfl, hg1, hg2⟩ Q hQ
      simp only [putAll, upd, Act.put, List.setIfInBounds_toArray, List.set_cons_zero, List.set_cons_succ, Nat.reduceAdd, Nat.zero_add, Nat.reduceEqDiff, if_true, if_false, reduceIte]
      have HG2 := Lib.hid hg2
      clear hg1 hg2
      go_wp2_with (go_at_call 41; refine (ints_c _ [b.ep, b.num, b.fw, b.tm] wq (row_e HG2.out [b.ep, b.num, b.fw, b.tm] rfl (by simp)) HWF.out.nums (by have := encIs4 b.ep b.num b.fw b.tm; omega) (by simp)).mono ?_; rintro e x1 ⟨v1, rfl, ho1, hx1⟩; have HO1 := Lib.hid ho1; have HX1 := Lib.hid hx1; clear ho1 hx1)
      exact relEnd_fin hQ _ (by kernel_rfl) HX1.out (HO1.out.mono HBQ.out.size)
    all_goals (intro Q hQ; simp only [putAll, upd, Act.put, List.setIfInBounds_toArray, List.set_cons_zero, List.set_cons_succ, Nat.reduceAdd, Nat.zero_add, Nat.reduceEqDiff, if_true, if_false, reduceIte])
    case refine_11 =>
      go_wp2
      exact relEnd_fin hQ _ (by kernel_rfl) ((Below.refl _ _).alloc (Nat.le_refl _) _) ⟨wq.heap.size, rfl, HBQ.out.size, heap_last _ _ _ rfl⟩
    case refine_17 =>
      go_wp2_with (go_at_call 28; refine (bytes_c b.mo wq (by have := HWF.out.mo; omega)).mono ?_; rintro e x1 ⟨v1, rfl, ho1, hx1⟩; have HO1 := Lib.hid ho1; have HX1 := Lib.hid hx1; clear ho1 hx1)
      exact relEnd_fin hQ _ (by kernel_rfl) HX1.out (HO1.out.mono HBQ.out.size)
    case refine_4 =>
      have c := (HCQ.out 16).trans (bc_16 b u)
      go_wp2
      exact relEnd_fin hQ _ (by kernel_rfl) (Below.refl _ _) rfl
    case refine_6 =>
      have c := (HCQ.out 17).trans (bc_17 b u)
      go_wp2
      exact relEnd_fin hQ _ (by kernel_rfl) (Below.refl _ _) rfl
    case refine_8 =>
      have c := (HCQ.out 18).trans (bc_18 b u)
      go_wp2
      exact relEnd_fin hQ _ (by kernel_rfl) (Below.refl _ _) rfl
    case refine_10 =>
      have c := (HCQ.out 19).trans (bc_19 b u)
      go_wp2
      exact relEnd_fin hQ _ (by kernel_rfl) (Below.refl _ _) rfl
    case refine_16 =>
      have c := (HCQ.out 36).trans (bc_36 b u)
      go_wp2
      exact relEnd_fin hQ _ (by kernel_rfl) (Below.refl _ _) rfl
    all_goals go_wp2
    all_goals exact relEnd_fin hQ _ (by kernel_rfl) (Below.refl _ _) rfl
  case h6 =>
    intro wq hbq vals
    show given _ _ _ [0, 1, 2, 3, 4, 5, 6, 7, 8, 9, 10, 11, 12, 13, 14, 15, 16] _
    simp only [given, SP.of, SP.freshS, SP.ownB, List.getD_cons_succ, List.getD_cons_zero]
    rintro _ ⟨g, rfl, hg1, hg2⟩ v1 ho1 v2 ho2
    simp only [List.take_succ_cons, List.take_zero, List.drop_succ_cons, List.drop_zero]
    simp only [putAll, upd, Act.put, List.setIfInBounds_toArray, List.set_cons_zero, List.set_cons_succ, Nat.reduceAdd, Nat.zero_add, Nat.reduceEqDiff, if_true, if_false, reduceIte]
    have HBQ := Lib.hid hbq
    have HCQ := Lib.hid (HBX.out wq hbq)
    have HZQ : Hid (w.heap.size < wq.heap.size) := Lib.hid (Nat.lt_of_lt_of_le HSZ.out hbq.size)
    have HO1 := Lib.hid ho1
    have HO2 := Lib.hid ho2
    obtain ⟨a1, c1, hf1, _, _, _⟩ := ho1.rd
    obtain ⟨a2, c2, hf2, _, _, _⟩ := ho2.rd
    generalize (encIs [b.ep, b.num, b.fw, b.tm]).length = n1 at hf1
    generalize (encS b.mo).length = n2 at hf2
    subst hf1 hf2
    clear hbq hg1 hg2 ho1 ho2
    have HCC : Hid (∀ j (h : j < [b.dom, encIs [b.ep, b.num, b.fw, b.tm], b.pol, encS b.mo].length), ∃ v, (wq.alloc (.cells #[.slice (some ⟨w.heap.size, 0, none⟩) 16 16, .slice a1 n1 c1, .slice (some ⟨w.heap.size, 20, none⟩) 16 16, .slice a2 n2 c2] 50)).cell? ⟨wq.heap.size, j, none⟩ = some v ∧ RdE eB (wq.alloc (.cells #[.slice (some ⟨w.heap.size, 0, none⟩) 16 16, .slice a1 n1 c1, .slice (some ⟨w.heap.size, 20, none⟩) 16 16, .slice a2 n2 c2] 50)) v ([b.dom, encIs [b.ep, b.num, b.fw, b.tm], b.pol, encS b.mo][j])) := Lib.hid (by
      intro j hj
      have hbA := ((Below.refl wq.heap.size wq).alloc (Nat.le_refl _) (.cells #[.slice (some ⟨w.heap.size, 0, none⟩) 16 16, .slice a1 n1 c1, .slice (some ⟨w.heap.size, 20, none⟩) 16 16, .slice a2 n2 c2] 50))
      have hj4 : j < 4 := hj
      rcases (by omega : j = 0 ∨ j = 1 ∨ j = 2 ∨ j = 3) with rfl | rfl | rfl | rfl
      · exact ⟨_, by rw [cell_of_row _ _ _ _ _ _ (heap_last _ _ _ rfl)]; rfl, (arr_rd HWF.out.dom HZQ.out (fun i hi => by rw [Nat.zero_add, HCQ.out i]; exact bcdom_at b u i hi)).on hbA⟩
      · exact ⟨_, by rw [cell_of_row _ _ _ _ _ _ (heap_last _ _ _ rfl)]; rfl, HO1.out.rd.on hbA⟩
      · exact ⟨_, by rw [cell_of_row _ _ _ _ _ _ (heap_last _ _ _ rfl)]; rfl, (arr_rd HWF.out.pol HZQ.out (fun i hi => by rw [HCQ.out (20 + i)]; exact bcpol_at b u i hi)).on hbA⟩
      · exact ⟨_, by rw [cell_of_row _ _ _ _ _ _ (heap_last _ _ _ rfl)]; rfl, HO2.out.rd.on hbA⟩)
    go_wp2_with (go_at_call 40; refine (concat_c wq.heap.size 4 [b.dom, encIs [b.ep, b.num, b.fw, b.tm], b.pol, encS b.mo] _ HCC.out (by simp) (by simp) (by rw [← headP_flat]; have := HHL.out.1; omega) (by rw [← headP_flat]; have := HHL.out.2; have := HWF.out.mo; omega)).mono ?_; rintro e w5 ⟨v5, rfl, ho5, hb5⟩; have HO5 := Lib.hid ho5; have HB5 := Lib.hid hb5; have hcv := conv_e ho5.rd; rw [← headP_flat] at hcv; clear ho5 hb5)
    go_ret
    exact ⟨rfl, HBE.out _ (HBQ.out.trans ((((Below.refl _ _).alloc (Nat.le_refl _) _).trans (HB5.out.mono (by simp))).mono HBQ.out.size))⟩
end Go.Proofs.YtbpjdfnnlmblaaaGreatDoor
/- The keys of a backup as bytes. -/
namespace Go.Proofs.YtbpjdfnnlmblaaaGreatDoor
open Go.RowKit Go.Shelf
set_option linter.unusedSimpArgs false
set_option linter.unusedVariables false
def rawI (b : Bool) : Int := if b then 1 else 0
def numsK (k : K) : List Int := [k.id, k.ty, k.uses, k.start, k.fin, k.ver, k.par, rawI k.raw]
def encKey (k : K) : List UInt8 := encSs [encIs (numsK k), k.val]
def contP (l : List K) : List UInt8 := encSs (l.map encKey)
/-- a key's numbers are the machine's -/
structure K.ok (k : K) : Prop where
  nums : ∀ x ∈ numsK k, okI x
  val : k.val.length ≤ 800000
def srow (l : List (List UInt8)) : Array Value := (l.map (fun x => Value.string ⟨x.toArray⟩)).toArray
theorem srow_size (l : List (List UInt8)) : (srow l).size = l.length := by simp [srow]
theorem srow_list (l : List (List UInt8)) : (srow l).toList = eS.flat l := by rw [flat_str]; simp [srow]
theorem srow_at (l : List (List UInt8)) (j : Nat) (h : j < l.length) : (srow l)[j]? = some (.string ⟨l[j].toArray⟩) := by simp [srow, h]
theorem srow_set (l : List (List UInt8)) (j : Nat) (x : List UInt8) : (srow l).setIfInBounds j (.string ⟨x.toArray⟩) = srow (l.set j x) := by
  unfold srow
  rw [List.setIfInBounds_toArray, List.map_set]
theorem info_str : (Tryz.prog.info? 9).map (fun i => (i.zero, i.size, i.bytes)) = some (some (.string ⟨#[]⟩), 1, 16) := by kernel_rfl
theorem run_mkS (n : Nat) (hn : n ≤ 1000000) (w : World) :
    (Instr.makeSlice 76 (.int .i64 (n : Int)) (.int .i64 (n : Int))).run Tryz.prog w = .ok (.slice (some ⟨w.heap.size, 0, none⟩) n n) (w.alloc (.cells (srow (List.replicate n [])) 9)) := by
  have hi1 := info_str
  cases hi : Tryz.prog.info? 9 with
  | none => rw [hi] at hi1; cases hi1
  | some i0 =>
    rw [hi] at hi1
    simp only [Option.map_some, Option.some.injEq, Prod.mk.injEq] at hi1
    obtain ⟨hz0, hz1, hz2⟩ := hi1
    rw [run_make w 76 9 i0 (.string ⟨#[]⟩) Tryz.underlying76 hi hz0 .i64 .i64 n n (by omega) (by omega) (by rw [hz2]; omega) (by omega)]
    have e : madeCells (Value.string ⟨#[]⟩).cells ((n : Int).toNat * i0.size) = srow (List.replicate n []) := by
      rw [hz1, Nat.mul_one, Int.toNat_natCast]
      apply Array.ext' 
      apply List.ext_getElem (by simp [madeCells, srow])
      intro i h7 h8
      simp [madeCells, srow, Value.cells]
      rw [Nat.mod_one]
      rfl
    rw [e, Int.toNat_natCast]
theorem encIs8 (k : K) : (encIs (numsK k)).length ≤ 81 := by
  unfold encIs encL catE numsK
  have h0 := encI_le (([k.id, k.ty, k.uses, k.start, k.fin, k.ver, k.par, rawI k.raw] : List Int).length : Int)
  have h1 := encI_le k.id
  have h2 := encI_le k.ty
  have h3 := encI_le k.uses
  have h4 := encI_le k.start
  have h5 := encI_le k.fin
  have h6 := encI_le k.ver
  have h7 := encI_le k.par
  have h8 := encI_le (rawI k.raw)
  rw [List.length_append]
  simp only [List.map_cons, List.map_nil, List.flatten_cons, List.flatten_nil, List.length_append, List.length_nil]
  omega
theorem encKey_len (k : K) : (encKey k).length ≤ k.val.length + 120 := by
  unfold encKey encSs encL catE
  have h0 := encI_le (([encIs (numsK k), k.val] : List (List UInt8)).length : Int)
  have h1 := encS_len (encIs (numsK k))
  have h2 := encS_len k.val
  have h3 := encIs8 k
  rw [List.length_append]
  simp only [List.map_cons, List.map_nil, List.flatten_cons, List.flatten_nil, List.length_append, List.length_nil]
  omega
/-- the encodings of the first j keys, and nothing in place of the others -/
def doneK (l : List K) (j : Nat) : List (List UInt8) := (l.take j).map encKey ++ List.replicate (l.length - j) []
theorem doneK_len (l : List K) (j : Nat) (h : j ≤ l.length) : (doneK l j).length = l.length := by unfold doneK; simp; omega
theorem doneK_zero (l : List K) : doneK l 0 = List.replicate l.length [] := by unfold doneK; simp
theorem doneK_full (l : List K) : doneK l l.length = l.map encKey := by unfold doneK; simp
theorem doneK_set (l : List K) (j : Nat) (h : j < l.length) : (doneK l j).set j (encKey (keyAt l j)) = doneK l (j + 1) := by
  unfold doneK
  have hl : ((l.take j).map encKey).length = j := by rw [List.length_map, List.length_take]; omega
  rw [List.set_append_right _ _ (by omega), hl, Nat.sub_self]
  obtain ⟨m, hm⟩ : ∃ m, l.length - j = m + 1 := ⟨l.length - j - 1, by omega⟩
  rw [hm, show l.length - (j + 1) = m by omega, List.replicate_succ, List.set_cons_zero, List.take_add_one, List.getElem?_eq_getElem h, List.map_append, keyAt_eq l j h]
  simp
attribute [local irreducible] Calls encI encS encIs encSs encKey srow
set_option maxRecDepth 100000 in
set_option maxHeartbeats 4000000 in
theorem content_c (v : Value) (l : List K) (w : World) (hv : RdK w v l) (hok : ∀ i, i < l.length → (keyAt l i).ok) (hn : l.length ≤ 5000) (hl : (contP l).length ≤ 900000) :
    Calls Tryz.prog 27 #[v] w fun e w' => e = .returned (.string ⟨(contP l).toArray⟩) ∧ Below w.heap.size w w' := by
  have HV := Lib.hid hv
  have HOK := Lib.hid hok
  have HL := Lib.hid hl
  have hni : (l.length : Int) ≤ 5000 := by omega
  have HN := Lib.hid hn
  have hmk := run_mkS l.length (by omega)
  obtain ⟨a, cap, rfl, _, _, _⟩ := hv
  clear hok hl hn
  go_enter Tryz.func27, Tryz.ntmps27
  go_wp2
  go_loopw [13] (fun i wr => ∃ j : Nat, j ≤ l.length ∧ i = .int .i64 j ∧ Hid (wr.heap[w.heap.size]? = some (.cells (srow (doneK l j)) 9 (0, 0))) ∧ Hid (Below w.heap.size w wr)) (fun i _ => l.length - (intOf i).toNat)
  case atStart => exact ⟨0, Nat.zero_le _, rfl, Lib.hid (by rw [doneK_zero]; exact heap_last _ _ _ rfl), Lib.hid ((Below.refl _ _).alloc (Nat.le_refl _) _)⟩
  case round =>
    clear hmk
    obtain ⟨j, hj, rfl, hg, hb⟩ := hrel
    by_cases hlt : j < l.length
    · obtain ⟨bb, off, rfl, hbl, hrow⟩ := ((HV.out.on hb.out).cells) (by omega)
      obtain ⟨d0, d1, d2, d3, d4, d5, d6, d7, d8⟩ := hrow j hlt
      have j1 : (j : Int) < l.length := by omega
      have HJ := Lib.hid hlt
      have HKO := Lib.hid (HOK.out j hlt)
      have HSET := Lib.hid (doneK_set l j hlt)
      have HDL := Lib.hid (doneK_len l j hj)
      generalize keyAt l j = k at d0 d1 d2 d3 d4 d5 d6 d7 d8 HKO HSET
      have hsz0 : w.heap.size < wr.heap.size := (Array.getElem?_eq_some_iff.1 hg.out).1
      have HSZ0 := Lib.hid hsz0
      clear hrow hlt hj hsz0
      go_upto_if 21 with fail
      go_cut [6, 19, 21] from 22 to 22 (fun r _ _ wc => r = .int .i64 (rawI k.raw) ∧ wc = wr.alloc (.cells (kc k) 45))
      case first =>
        cases hr : k.raw with
        | true =>
          have HR := Lib.hid hr
          clear hr
          go_wp2
          all_goals go_meet
          case rel => exact ⟨by rw [HR.out]; rfl, by unfold kc; rw [HR.out]⟩
        | false =>
          have HR := Lib.hid hr
          clear hr
          go_wp2
          all_goals go_meet
          case rel => exact ⟨by rw [HR.out]; rfl, by unfold kc; rw [HR.out]⟩
      case rest =>
        obtain ⟨rfl, hwc⟩ := hcut
        have HG1 : Hid (wc.heap[w.heap.size]? = some (.cells (srow (doneK l j)) 9 (0, 0))) := Lib.hid (by rw [hwc, heap_past _ _ _ HSZ0.out]; exact hg.out)
        have HB1 : Hid (Below w.heap.size w wc) := Lib.hid (by rw [hwc]; exact hb.out.alloc (hb.out.size) _)
        have HK1 : Hid (wc.heap[wr.heap.size]? = some (.cells (kc k) 45 (0, 0))) := Lib.hid (by rw [hwc]; exact heap_last _ _ _ rfl)
        have e0 : wc.cell? ⟨wr.heap.size, 0, none⟩ = some (.int .i64 k.id) := by rw [cell_of_row _ _ _ _ _ _ HK1.out]; rfl
        have e1 : wc.cell? ⟨wr.heap.size, 1, none⟩ = some (.int .i64 k.ty) := by rw [cell_of_row _ _ _ _ _ _ HK1.out]; rfl
        have e3 : wc.cell? ⟨wr.heap.size, 3, none⟩ = some (.int .i64 k.uses) := by rw [cell_of_row _ _ _ _ _ _ HK1.out]; rfl
        have e4 : wc.cell? ⟨wr.heap.size, 4, none⟩ = some (.int .i64 k.start) := by rw [cell_of_row _ _ _ _ _ _ HK1.out]; rfl
        have e5 : wc.cell? ⟨wr.heap.size, 5, none⟩ = some (.int .i64 k.fin) := by rw [cell_of_row _ _ _ _ _ _ HK1.out]; rfl
        have e6 : wc.cell? ⟨wr.heap.size, 6, none⟩ = some (.int .i64 k.ver) := by rw [cell_of_row _ _ _ _ _ _ HK1.out]; rfl
        have e7 : wc.cell? ⟨wr.heap.size, 7, none⟩ = some (.int .i64 k.par) := by rw [cell_of_row _ _ _ _ _ _ HK1.out]; rfl
        have HBI : Hid (Below wc.heap.size wc (wc.alloc (.cells #[.int .i64 k.id, .int .i64 k.ty, .int .i64 k.uses, .int .i64 k.start, .int .i64 k.fin, .int .i64 k.ver, .int .i64 k.par, .int .i64 (rawI k.raw)] 3))) := Lib.hid ((Below.refl _ _).alloc (Nat.le_refl _) _)
        clear hwc d0 d1 d2 d3 d4 d5 d6 d7 d8
        go_upto_region 9 with (go_at_call 41; refine (ints_c _ (numsK k) _ (row_e (heap_last wc _ _ rfl) (numsK k) rfl (by unfold numsK; simp)) HKO.out.nums (by have := encIs8 k; omega) (by unfold numsK; simp)).mono ?_; rintro e w2 ⟨v2, rfl, ho2, hb2⟩; have HB2 : Hid (Below wc.heap.size wc w2) := (Lib.hid (HBI.out.trans (hb2.mono HBI.out.size))); have hcv := conv_e ho2.rd; clear ho2 hb2)
        have e2 : w2.cell? ⟨wr.heap.size, 2, none⟩ = some (.string ⟨k.val.toArray⟩) := by
          rw [HB2.out.cell (p := ⟨wr.heap.size, 2, none⟩) (Array.getElem?_eq_some_iff.1 HK1.out).1, cell_of_row _ _ _ _ _ _ HK1.out]
          rfl
        have HG2 : Hid (w2.heap[w.heap.size]? = some (.cells (srow (doneK l j)) 9 (0, 0))) := Lib.hid (by rw [HB2.out.block _ (Array.getElem?_eq_some_iff.1 HG1.out).1]; exact HG1.out)
        have HBS : Hid (Below w2.heap.size w2 (w2.alloc (.cells #[.string ⟨(encIs (numsK k)).toArray⟩, .string ⟨k.val.toArray⟩] 9))) := Lib.hid ((Below.refl _ _).alloc (Nat.le_refl _) _)
        clear e0 e1 e3 e4 e5 e6 e7
        have HEK : Hid (encSs [encIs (numsK k), k.val] = encKey k) := Lib.hid (by unfold encKey; rfl)
        have HEL := Lib.hid (encKey_len k)
        go_upto_region 10 with (first
          | (go_at_call 63; refine (strings_c _ [encIs (numsK k), k.val] _ (row_e (heap_last w2 _ _ rfl) [encIs (numsK k), k.val] rfl (by simp)) (by rw [HEK.out]; have := HEL.out; have := HKO.out.val; omega) (by simp)).mono ?_; rintro e w3 ⟨v3, rfl, ho3, hb3⟩; have HB3 : Hid (Below w2.heap.size w2 w3) := (Lib.hid (HBS.out.trans (hb3.mono HBS.out.size))); have hcv3 := conv_e ho3.rd; rw [HEK.out] at hcv3; have HG3 : Hid (w3.heap[w.heap.size]? = some (.cells (srow (doneK l j)) 9 (0, 0))) := (Lib.hid (by rw [HB3.out.block _ (Array.getElem?_eq_some_iff.1 HG2.out).1]; exact HG2.out)); have c9 : w3.cell? ⟨w.heap.size, j, none⟩ = some (.string ⟨((doneK l j)[j]'(by rw [HDL.out]; exact HJ.out)).toArray⟩) := (by rw [cell_of_row _ _ _ _ _ _ HG3.out]; exact srow_at _ _ (by rw [HDL.out]; exact HJ.out)); have f9 := frozen_of_row _ _ j _ _ HG3.out; clear ho3 hb3))
        have HW4 : Hid (w3.setCell ⟨w.heap.size, j, none⟩ (.string ⟨(encKey k).toArray⟩) = w3.setRow w.heap.size (srow (doneK l (j + 1)))) := Lib.hid (by rw [setCell_rowC _ _ _ _ _ _ _ HG3.out, srow_set, HSET.out])
        go_wp2
        go_roundw
        case rel => exact ⟨j + 1, HJ.out, by go_num, Lib.hid (by rw [HW4.out]; exact setRow_heap _ _ _ _ _ _ HG3.out), Lib.hid (by rw [HW4.out]; exact ((HB1.out.trans ((HB2.out.trans (HB3.out.mono HB2.out.size)).mono HB1.out.size))).trans (below_row (Nat.le_refl _)))⟩
        case measure => have := HJ.out; simp [intOf]; omega
    · have he : j = l.length := by omega
      have j1 : (l.length : Int) ≤ j := by omega
      have HG1 : Hid (wr.heap[w.heap.size]? = some (.cells (srow (l.map encKey)) 9 (0, 0))) := Lib.hid (by have := hg.out; rw [he, doneK_full] at this; exact this)
      have HRD : Hid (RdE eS wr (.slice (some ⟨w.heap.size, 0, none⟩) l.length l.length) (l.map encKey)) := Lib.hid (by
        have := row_e (E := eS) HG1.out (l.map encKey) (srow_list _) (by rw [List.length_map]; have := HN.out; omega)
        rw [List.length_map] at this
        exact this)
      have HC : Hid (encSs (l.map encKey) = contP l) := Lib.hid (by unfold contP; rfl)
      clear he hlt hj
      go_wp2_with (go_at_call 63; refine (strings_c _ (l.map encKey) _ HRD.out (by rw [HC.out]; exact HL.out) (by rw [List.length_map]; have := HN.out; omega)).mono ?_; rintro e w3 ⟨v3, rfl, ho3, hb3⟩; have HB3 := Lib.hid (hb.out.trans (hb3.mono hb.out.size)); have hcv3 := conv_e ho3.rd; rw [HC.out] at hcv3; clear ho3 hb3)
      go_ret
      exact ⟨rfl, HB3.out⟩
end Go.Proofs.YtbpjdfnnlmblaaaGreatDoor
/- Digests and places: loads and equality. -/
namespace Go.Proofs.YtbpjdfnnlmblaaaGreatDoor
open Go.RowKit Go.Shelf
set_option linter.unusedSimpArgs false
set_option linter.unusedVariables false
/-- where a backup is restored -/
structure PK where
  dom : List UInt8
  pol : List UInt8
  fw : Int
  num : Int
def drow (d : List UInt8) : Array Value := #[dcell d 0, dcell d 1, dcell d 2, dcell d 3, dcell d 4, dcell d 5, dcell d 6, dcell d 7, dcell d 8, dcell d 9, dcell d 10, dcell d 11, dcell d 12, dcell d 13, dcell d 14, dcell d 15]
def pc (p : PK) : Array Value := #[dcell p.dom 0, dcell p.dom 1, dcell p.dom 2, dcell p.dom 3, dcell p.dom 4, dcell p.dom 5, dcell p.dom 6, dcell p.dom 7, dcell p.dom 8, dcell p.dom 9, dcell p.dom 10, dcell p.dom 11, dcell p.dom 12, dcell p.dom 13, dcell p.dom 14, dcell p.dom 15, dcell p.pol 0, dcell p.pol 1, dcell p.pol 2, dcell p.pol 3, dcell p.pol 4, dcell p.pol 5, dcell p.pol 6, dcell p.pol 7, dcell p.pol 8, dcell p.pol 9, dcell p.pol 10, dcell p.pol 11, dcell p.pol 12, dcell p.pol 13, dcell p.pol 14, dcell p.pol 15, .int .i64 p.fw, .int .i64 p.num]
theorem pc_0 (p : PK) : (pc p)[0]? = some (dcell p.dom 0) := rfl
theorem pc_1 (p : PK) : (pc p)[1]? = some (dcell p.dom 1) := rfl
theorem pc_2 (p : PK) : (pc p)[2]? = some (dcell p.dom 2) := rfl
theorem pc_3 (p : PK) : (pc p)[3]? = some (dcell p.dom 3) := rfl
theorem pc_4 (p : PK) : (pc p)[4]? = some (dcell p.dom 4) := rfl
theorem pc_5 (p : PK) : (pc p)[5]? = some (dcell p.dom 5) := rfl
theorem pc_6 (p : PK) : (pc p)[6]? = some (dcell p.dom 6) := rfl
theorem pc_7 (p : PK) : (pc p)[7]? = some (dcell p.dom 7) := rfl
theorem pc_8 (p : PK) : (pc p)[8]? = some (dcell p.dom 8) := rfl
theorem pc_9 (p : PK) : (pc p)[9]? = some (dcell p.dom 9) := rfl
theorem pc_10 (p : PK) : (pc p)[10]? = some (dcell p.dom 10) := rfl
theorem pc_11 (p : PK) : (pc p)[11]? = some (dcell p.dom 11) := rfl
theorem pc_12 (p : PK) : (pc p)[12]? = some (dcell p.dom 12) := rfl
theorem pc_13 (p : PK) : (pc p)[13]? = some (dcell p.dom 13) := rfl
theorem pc_14 (p : PK) : (pc p)[14]? = some (dcell p.dom 14) := rfl
theorem pc_15 (p : PK) : (pc p)[15]? = some (dcell p.dom 15) := rfl
theorem pc_16 (p : PK) : (pc p)[16]? = some (dcell p.pol 0) := rfl
theorem pc_17 (p : PK) : (pc p)[17]? = some (dcell p.pol 1) := rfl
theorem pc_18 (p : PK) : (pc p)[18]? = some (dcell p.pol 2) := rfl
theorem pc_19 (p : PK) : (pc p)[19]? = some (dcell p.pol 3) := rfl
theorem pc_20 (p : PK) : (pc p)[20]? = some (dcell p.pol 4) := rfl
theorem pc_21 (p : PK) : (pc p)[21]? = some (dcell p.pol 5) := rfl
theorem pc_22 (p : PK) : (pc p)[22]? = some (dcell p.pol 6) := rfl
theorem pc_23 (p : PK) : (pc p)[23]? = some (dcell p.pol 7) := rfl
theorem pc_24 (p : PK) : (pc p)[24]? = some (dcell p.pol 8) := rfl
theorem pc_25 (p : PK) : (pc p)[25]? = some (dcell p.pol 9) := rfl
theorem pc_26 (p : PK) : (pc p)[26]? = some (dcell p.pol 10) := rfl
theorem pc_27 (p : PK) : (pc p)[27]? = some (dcell p.pol 11) := rfl
theorem pc_28 (p : PK) : (pc p)[28]? = some (dcell p.pol 12) := rfl
theorem pc_29 (p : PK) : (pc p)[29]? = some (dcell p.pol 13) := rfl
theorem pc_30 (p : PK) : (pc p)[30]? = some (dcell p.pol 14) := rfl
theorem pc_31 (p : PK) : (pc p)[31]? = some (dcell p.pol 15) := rfl
theorem pc_32 (p : PK) : (pc p)[32]? = some (.int .i64 p.fw) := rfl
theorem pc_33 (p : PK) : (pc p)[33]? = some (.int .i64 p.num) := rfl
/-- equal digests -/
def dEq (x y : List UInt8) : Bool := (List.range 16).all fun i => byteAt x i == byteAt y i
theorem part_d (d : List UInt8) (i : Nat) (hi : i < 16) (w : World) : (part 5 (drow d) (i * 1)).run Tryz.prog w = .ok (dcell d i) w := by
  have e : drow d = ((List.range 16).map (dcell d)).toArray := rfl
  have h : (drow d)[i]? = some (dcell d i) := by rw [e]; simp [hi]
  rw [Nat.mul_one]
  simp [part, go_sem, h]
theorem eq_d (d : Nat) (x y : List UInt8) (w : World) : ∀ (is : List Nat), (∀ i ∈ is, i < 16) → (Op.eqItems (d + 1) 5 1 (drow x) (drow y) is).run Tryz.prog w = .ok (is.all fun i => byteAt x i == byteAt y i) w := by
  intro is
  induction is with
  | nil => intro _; rfl
  | cons i is ih =>
    intro h
    have h1 := part_d x i (h i (by simp)) w
    have h2 := part_d y i (h i (by simp)) w
    have h3 : (Op.equalIn (d + 1) 5 (dcell x i) (dcell y i)).run Tryz.prog w = .ok (B8 (byteAt x i) == B8 (byteAt y i)) w := run_equalIn_int w d _ _ _ _ _ Tryz.underlying5
    have h4 : (B8 (byteAt x i) == B8 (byteAt y i)) = (byteAt x i == byteAt y i) := by
      by_cases e : byteAt x i = byteAt y i
      · rw [e]; simp
      · rw [beq_eq_false_iff_ne.2 e, beq_eq_false_iff_ne]
        exact fun e2 => e (u8_inj e2)
    simp only [Op.eqItems, Sem.run_bind, h1, h2, h3, Result.andThen_ok, h4, List.all_cons]
    cases byteAt x i == byteAt y i with
    | true => simpa using ih (fun j hj => h j (by simp [hj]))
    | false => rfl
theorem equalIn_d (d : Nat) (x y : List UInt8) (w : World) : (Op.equalIn (d + 2) 23 (.agg (drow x)) (.agg (drow y))).run Tryz.prog w = .ok (dEq x y) w := by
  obtain ⟨i0, hi⟩ : ∃ i, Tryz.prog.info? 5 = some i := Option.isSome_iff_exists.1 (by kernel_rfl)
  rw [show d + 2 = (d + 1) + 1 from rfl, run_equalIn_array w (d + 1) (drow x) (drow y) Tryz.underlying23 hi]
  have hc : Tryz.prog.cellsOf 5 = 1 := by kernel_rfl
  rw [hc]
  exact eq_d d x y w (List.range 16) (fun i hi => List.mem_range.1 hi)
theorem neq_d (x y : List UInt8) (w : World) : (binOp .neq 23 (.agg (drow x)) (.agg (drow y))).run Tryz.prog w = .ok (.bool (!dEq x y)) w := by
  rw [run_neq_struct]
  rw [show (10000 : Nat) = 9998 + 2 from rfl, equalIn_d 9998 x y]
  rfl
end Go.Proofs.YtbpjdfnnlmblaaaGreatDoor
/- Admit, both. -/
namespace Go.Proofs.YtbpjdfnnlmblaaaGreatDoor
open Go.RowKit Go.Shelf
set_option linter.unusedSimpArgs false
set_option linter.unusedVariables false
theorem info_b : (Tryz.prog.info? 26).map (·.size) = some 38 := by kernel_rfl
theorem info_d : (Tryz.prog.info? 23).map (·.size) = some 16 := by kernel_rfl
/-- a whole backup out of memory -/
theorem ld_bk {ops : Array Oper} {rest : List Oper} {o : Oper} {a : Act} {w : World} {Q : Exit → Act → World → Prop} (b : BK) (u : Value)
    (hgd : Region.wanted o (yielded ops a.tmps) = true) (x : Operand) (ho : o.op = .load 26 x)
    (g : Nat) (hx : a.eval x = .pointer (some ⟨g, 0, none⟩)) (T' : TypeId) (hg : w.heap[g]? = some (.cells (bc b u) T' (0, 0)))
    (h : wpList Tryz.prog ops Q rest (a.put o.dst (.agg (bc b u))) w) : wpList Tryz.prog ops Q (o :: rest) a w :=
  wpList_step fun K hK => by
    rw [if_pos hgd]
    exact wp_load_row _ x ho g hx _ (bc b u) (0, 0) _ hg Tryz.underlying26 rfl (by rw [bc_size]; exact info_b) (hK _ _ h)
/-- a digest out of memory -/
theorem ld_dig {ops : Array Oper} {rest : List Oper} {o : Oper} {a : Act} {w : World} {Q : Exit → Act → World → Prop} (d : List UInt8) (g off : Nat) (hc : w.rangeAt g off (drow d).toList)
    (hgd : Region.wanted o (yielded ops a.tmps) = true) (x : Operand) (ho : o.op = .load 23 x) (hx : a.eval x = .pointer (some ⟨g, off, none⟩))
    (h : wpList Tryz.prog ops Q rest (a.put o.dst (.agg (drow d))) w) : wpList Tryz.prog ops Q (o :: rest) a w :=
  wpList_step fun K hK => by
    rw [if_pos hgd]
    exact wp_load_mid _ x ho g off hx (drow d).toList _ hc Tryz.underlying23 rfl info_d (hK _ _ h)
theorem range_row {w : World} {g : Nat} {cs : Array Value} {T : TypeId} (h : w.heap[g]? = some (.cells cs T (0, 0))) (off : Nat) (l : List Value) (hl : (cs.toList.drop off).take l.length = l) : w.rangeAt g off l := by
  intro j v hj
  rw [cell_of_row _ _ _ _ _ _ h]
  have hlt : j < l.length := (List.getElem?_eq_some_iff.1 hj).1
  have e : ((cs.toList.drop off).take l.length)[j]? = l[j]? := by rw [hl]
  rw [List.getElem?_take, if_pos hlt, List.getElem?_drop, hj] at e
  rw [← Array.getElem?_toList]
  exact e
def admitK (p : PK) (b : BK) (l : List K) : Int :=
  if validB b l = true then (if dEq b.dom p.dom = true ∧ dEq b.pol p.pol = true then (if b.fw ≤ p.fw ∧ p.num ≤ b.num then 0 else 20) else 10) else 1
theorem admit_six (p : PK) (b : BK) (l : List K) : (validB b l = false ∧ admitK p b l = 1) ∨ (validB b l = true ∧ dEq b.dom p.dom = false ∧ admitK p b l = 10) ∨ (validB b l = true ∧ dEq b.dom p.dom = true ∧ dEq b.pol p.pol = false ∧ admitK p b l = 10) ∨
    (validB b l = true ∧ dEq b.dom p.dom = true ∧ dEq b.pol p.pol = true ∧ p.fw < b.fw ∧ admitK p b l = 20) ∨ (validB b l = true ∧ dEq b.dom p.dom = true ∧ dEq b.pol p.pol = true ∧ ¬ p.fw < b.fw ∧ b.num < p.num ∧ admitK p b l = 20) ∨
    (validB b l = true ∧ dEq b.dom p.dom = true ∧ dEq b.pol p.pol = true ∧ ¬ p.fw < b.fw ∧ ¬ b.num < p.num ∧ admitK p b l = 0) := by
  unfold admitK
  cases h1 : validB b l
  · simp
  cases h2 : dEq b.dom p.dom
  · simp
  cases h3 : dEq b.pol p.pol
  · simp
  by_cases h4 : p.fw < b.fw
  · have : ¬ b.fw ≤ p.fw := by omega
    simp [h4, this]
  by_cases h5 : b.num < p.num
  · have : ¬ p.num ≤ b.num := by omega
    simp [h4, h5, this]
  have a4 : b.fw ≤ p.fw := by omega
  have a5 : p.num ≤ b.num := by omega
  simp [h4, h5, a4, a5]
attribute [local semireducible] bc
theorem bc_dom (b : BK) (u : Value) : ((bc b u).toList.drop 0).take (drow b.dom).toList.length = (drow b.dom).toList := rfl
theorem bc_pol (b : BK) (u : Value) : ((bc b u).toList.drop 20).take (drow b.pol).toList.length = (drow b.pol).toList := rfl
theorem pc_dom (p : PK) : ((pc p).toList.drop 0).take (drow p.dom).toList.length = (drow p.dom).toList := rfl
theorem pc_pol (p : PK) : ((pc p).toList.drop 16).take (drow p.pol).toList.length = (drow p.pol).toList := rfl
attribute [local irreducible] bc pc drow Calls validB admitK dEq
end Go.Proofs.YtbpjdfnnlmblaaaGreatDoor
/- The cipher's laws on plain functions. -/
namespace Go.Proofs.YtbpjdfnnlmblaaaGreatDoor.C3
set_option linter.unusedSimpArgs false
theorem byteAt_xorText (key : List UInt8) (ctr : UInt32) (nonce text : List UInt8) (i : Nat) (h : i < text.length) : byteAt (xorText key ctr nonce text) i = xorAt key ctr nonce text i := by
  unfold byteAt xorText
  rw [List.getD_eq_getElem?_getD, List.getElem?_map, List.getElem?_range h]
  rfl
theorem ext_byte {s t : List UInt8} (hl : s.length = t.length) (h : ∀ i, i < s.length → byteAt s i = byteAt t i) : s = t := by
  apply List.ext_getElem hl
  intro i h1 h2
  have := h i h1
  simpa [byteAt, List.getD_eq_getElem?_getD, List.getElem?_eq_getElem h1, List.getElem?_eq_getElem h2] using this
theorem xor_xor (a b : UInt8) : a ^^^ b ^^^ b = a := by rw [UInt8.xor_assoc, UInt8.xor_self, UInt8.xor_zero]
theorem xorText_twice (key : List UInt8) (ctr : UInt32) (nonce text : List UInt8) : xorText key ctr nonce (xorText key ctr nonce text) = text := by
  refine ext_byte (by rw [length_xorText, length_xorText]) (fun i hi => ?_)
  rw [length_xorText, length_xorText] at hi
  rw [byteAt_xorText _ _ _ _ _ (by rw [length_xorText]; exact hi), xorAt, byteAt_xorText _ _ _ _ _ hi, xorAt, xor_xor]
theorem byteAt_drop (l : List UInt8) (n i : Nat) : byteAt (l.drop n) i = byteAt l (n + i) := by
  unfold byteAt; simp [List.getD_eq_getElem?_getD, List.getElem?_drop]
theorem byteAt_take (l : List UInt8) (n i : Nat) (h : i < n) : byteAt (l.take n) i = byteAt l i := by
  unfold byteAt; simp [List.getD_eq_getElem?_getD, List.getElem?_take, h]
theorem xorText_drop (key : List UInt8) (ctr : UInt32) (nonce text : List UInt8) (n : Nat) (h : 64 * n ≤ text.length) :
    (xorText key ctr nonce text).drop (64 * n) = xorText key (ctr + UInt32.ofNat n) nonce (text.drop (64 * n)) := by
  refine ext_byte (by simp [length_xorText]) (fun i hi => ?_)
  rw [List.length_drop, length_xorText] at hi
  rw [byteAt_drop, byteAt_xorText _ _ _ _ _ (by omega), byteAt_xorText _ _ _ _ _ (by rw [List.length_drop]; omega), xorAt, xorAt, byteAt_drop]
  have e1 : (64 * n + i) / 64 = n + i / 64 := by omega
  have e2 : (64 * n + i) % 64 = i % 64 := by omega
  rw [e1, e2, UInt32.ofNat_add, UInt32.add_assoc]
theorem xorText_take (key : List UInt8) (ctr : UInt32) (nonce text : List UInt8) (n : Nat) : (xorText key ctr nonce text).take n = xorText key ctr nonce (text.take n) := by
  refine ext_byte (by simp [length_xorText]) (fun i hi => ?_)
  rw [List.length_take, length_xorText] at hi
  rw [byteAt_take _ _ _ (by omega), byteAt_xorText _ _ _ _ _ (by omega), byteAt_xorText _ _ _ _ _ (by rw [List.length_take]; omega), xorAt, xorAt, byteAt_take _ _ _ (by omega)]
theorem xorText_diff (key : List UInt8) (ctr : UInt32) (nonce a b : List UInt8) (i : Nat) (ha : i < a.length) (hb : i < b.length) :
    byteAt (xorText key ctr nonce a) i ^^^ byteAt (xorText key ctr nonce b) i = byteAt a i ^^^ byteAt b i := by
  rw [byteAt_xorText _ _ _ _ _ ha, byteAt_xorText _ _ _ _ _ hb, xorAt, xorAt]
  generalize byteAt (block _ _ _) _ = z
  rw [UInt8.xor_assoc, UInt8.xor_comm z, UInt8.xor_assoc, UInt8.xor_self, UInt8.xor_zero]
end Go.Proofs.YtbpjdfnnlmblaaaGreatDoor.C3
/- Sealing, the plain laws. -/
namespace Go.Proofs.YtbpjdfnnlmblaaaGreatDoor
open Go.RowKit
set_option linter.unusedSimpArgs false
set_option linter.unusedVariables false
theorem xorP_twice (key n t : List UInt8) : xorP key n (xorP key n t) = t := C3.xorText_twice key 1 n t
theorem sealP_len (key ad t : List UInt8) : (sealP key ad t).length = t.length + 28 := by
  unfold sealP
  rw [List.length_append, List.length_append, nonceP_len, xorP_len, tagP_len]
  omega
theorem parts_of (n x g : List UInt8) (hn : n.length = 12) (hg : g.length = 16) : bN (n ++ (x ++ g)) = n ∧ bC (n ++ (x ++ g)) = x ∧ bT (n ++ (x ++ g)) = g := by
  have hl : (n ++ (x ++ g)).length = x.length + 28 := by rw [List.length_append, List.length_append]; omega
  refine ⟨?_, ?_, ?_⟩
  · unfold bN
    rw [← hn, List.take_left]
  · unfold bC
    rw [hl, show x.length + 28 - 16 - 12 = x.length by omega]
    conv => lhs; rw [← hn]
    rw [List.drop_left, List.take_left]
  · unfold bT
    rw [hl, ← List.append_assoc, show x.length + 28 - 16 = (n ++ x).length by rw [List.length_append]; omega, List.drop_left]
theorem parts_back (b : List UInt8) (h : 28 ≤ b.length) : b = bN b ++ (bC b ++ bT b) := by
  unfold bN bC bT
  have e : b.drop (b.length - 16) = (b.drop 12).drop (b.length - 16 - 12) := by rw [List.drop_drop]; congr 1; omega
  rw [e, List.take_append_drop, List.take_append_drop]
theorem open_seal (key ad t : List UInt8) : openP key ad (sealP key ad t) = some t := by
  obtain ⟨h1, h2, h3⟩ := parts_of (nonceP (macK key) ad t) (xorP (encK key) (nonceP (macK key) ad t) t) (tagP (macK key) (nonceP (macK key) ad t) ad (xorP (encK key) (nonceP (macK key) ad t) t)) (nonceP_len _ _ _) (tagP_len _ _ _ _)
  unfold openP sealP
  rw [h1, h2, h3, xorP_twice, if_pos ⟨rfl, rfl⟩]
theorem seal_open (key ad b x : List UInt8) (hb : 28 ≤ b.length) (h : openP key ad b = some x) : b = sealP key ad x := by
  unfold openP at h
  split at h
  · rename_i hc
    obtain ⟨h1, h2⟩ := hc
    have hx : xorP (encK key) (bN b) (bC b) = x := by simpa using h
    rw [hx] at h2
    have hcx : xorP (encK key) (bN b) x = bC b := by rw [← hx, xorP_twice]
    have hp := parts_back b hb
    unfold sealP
    rw [h2, hcx, h1]
    exact hp
  · cases h
/-- the laws, on the answers -/
theorem law_rt (key ad t : List UInt8) (h : sealE key ad t = 0) : openX key ad (sealX key ad t) = t ∧ openE key ad (sealX key ad t) = 0 ∧ (sealX key ad t).length = t.length + 28 := by
  unfold sealE at h
  split at h
  · rename_i hk
    split at h
    · cases h
    · rename_i hs
      have hx : sealX key ad t = sealP key ad t := by unfold sealX; rw [if_pos ⟨hk, hs⟩]
      have hl := sealP_len key ad t
      rw [hx]
      unfold openX openE
      have h2 : ¬ (1048576 < ad.length ∨ 1048604 < (sealP key ad t).length) := by omega
      have h3 : ¬ (sealP key ad t).length < 28 := by omega
      rw [if_pos ⟨hk, h2, h3⟩, if_pos hk, if_neg h2, if_neg h3, open_seal]
      exact ⟨rfl, rfl, hl⟩
  · cases h
theorem law_no (key ad t : List UInt8) (h : sealE key ad t ≠ 0) (hs : ad.length ≤ 1048576 ∧ t.length ≤ 1048576) : sealX key ad t = [] ∧ sealE key ad t = 1 ∧ ¬ key.length = 32 := by
  unfold sealE at h ⊢
  unfold sealX
  have h2 : ¬ (1048576 < ad.length ∨ 1048576 < t.length) := by omega
  by_cases hk : key.length = 32
  · rw [if_pos hk, if_neg h2] at h
    exact absurd rfl h
  · rw [if_neg (fun e => hk e.1), if_neg hk]
    exact ⟨rfl, rfl, hk⟩
theorem law_changed (key ad t b : List UInt8) (h : sealE key ad t = 0) (hne : sealX key ad t ≠ b) : openE key ad b ≠ 0 ∨ openX key ad b ≠ t := by
  by_cases he : openE key ad b = 0
  · refine .inr fun hx => hne ?_
    unfold openE at he
    split at he
    · rename_i hk
      split at he
      · cases he
      · rename_i h2
        split at he
        · cases he
        · rename_i h3
          split at he
          · rename_i h4
            obtain ⟨x, hx4⟩ := Option.isSome_iff_exists.1 h4
            have hox : openX key ad b = x := by unfold openX; rw [if_pos ⟨hk, h2, h3⟩, hx4]; rfl
            rw [hox] at hx
            subst hx
            have hb := seal_open key ad b x (by omega) hx4
            have hl := sealP_len key ad x
            have hs : ¬ (1048576 < ad.length ∨ 1048576 < x.length) := by rw [hb, hl] at h2; omega
            unfold sealX
            rw [if_pos ⟨hk, hs⟩]
            exact hb.symm
          · cases he
    · cases he
  · exact .inl he
theorem law_inj (key ad t ad2 t2 : List UInt8) (h : sealE key ad t = 0) (h2 : sealE key ad2 t2 = 0) (e : sealX key ad t = sealX key ad2 t2) : t = t2 := by
  have hx : ∀ ad t, sealE key ad t = 0 → sealX key ad t = sealP key ad t := by
    intro ad t h
    unfold sealE at h
    unfold sealX
    split at h
    · rename_i hk
      split at h
      · cases h
      · rename_i hs
        rw [if_pos ⟨hk, hs⟩]
    · cases h
  rw [hx ad t h, hx ad2 t2 h2] at e
  obtain ⟨a1, a2, a3⟩ := parts_of (nonceP (macK key) ad t) (xorP (encK key) (nonceP (macK key) ad t) t) (tagP (macK key) (nonceP (macK key) ad t) ad (xorP (encK key) (nonceP (macK key) ad t) t)) (nonceP_len _ _ _) (tagP_len _ _ _ _)
  obtain ⟨b1, b2, b3⟩ := parts_of (nonceP (macK key) ad2 t2) (xorP (encK key) (nonceP (macK key) ad2 t2) t2) (tagP (macK key) (nonceP (macK key) ad2 t2) ad2 (xorP (encK key) (nonceP (macK key) ad2 t2) t2)) (nonceP_len _ _ _) (tagP_len _ _ _ _)
  unfold sealP at e
  have e1 : nonceP (macK key) ad t = nonceP (macK key) ad2 t2 := by rw [← a1, e, b1]
  have e2 : xorP (encK key) (nonceP (macK key) ad t) t = xorP (encK key) (nonceP (macK key) ad2 t2) t2 := by rw [← a2, e, b2]
  rw [e1] at e2
  have := congrArg (xorP (encK key) (nonceP (macK key) ad2 t2)) e2
  rwa [xorP_twice, xorP_twice] at this
end Go.Proofs.YtbpjdfnnlmblaaaGreatDoor
/- The key of a backup; Make. -/
namespace Go.Proofs.YtbpjdfnnlmblaaaGreatDoor
open Go.RowKit Go.Shelf
set_option linter.unusedSimpArgs false
set_option linter.unusedVariables false
/-- "backup" -/
def bkL : List UInt8 := [98, 97, 99, 107, 117, 112]
/-- the key that is derived for a label -/
def deriveP (key label : List UInt8) : List UInt8 := mac key (encS label)
theorem deriveP_len (key label : List UInt8) : (deriveP key label).length = 32 := mac_len _ _
attribute [local irreducible] Calls mac encS encI encIs encSs encKey headP contP sealP
set_option maxRecDepth 100000 in
set_option maxHeartbeats 2000000 in
theorem derive_c (key label : List UInt8) (w : World) (hk : KAt w) (hl : key.length ≤ 1000000) (hm : label.length ≤ 1000) :
    Calls Tryz.prog 26 #[.string ⟨key.toArray⟩, .string ⟨label.toArray⟩, .slice none 0 0] w fun e w' => e = .returned (.string ⟨(deriveP key label).toArray⟩) ∧ Below w.heap.size w w' := by
  have HK := Lib.hid hk
  have HL := Lib.hid hl
  have HM := Lib.hid hm
  have HD : Hid (mac key (encS label) = deriveP key label) := Lib.hid rfl
  have HE := Lib.hid (encS_len label)
  clear hk hl hm
  go_enter Tryz.func26, Tryz.ntmps26
  go_wp2_with (go_at_call 28; refine (bytes_c label _ (by have := HM.out; omega)).mono ?_; rintro e w1 ⟨v1, rfl, ho1, hb1⟩; have HO1 := Lib.hid ho1; have HB1 := Lib.hid hb1; clear ho1 hb1)
  go_loopw [14, 7] (fun i o wr => i = .int .i64 0 ∧ o = v1 ∧ wr = w1) (fun _ _ _ => 0)
  case atStart => exact ⟨rfl, rfl, rfl⟩
  case round =>
    obtain ⟨rfl, rfl, hwr⟩ := hrel
    rw [hwr]
    clear hwr
    have hcv := conv_e HO1.out.rd
    go_wp2_with (go_at_call 62; refine (mac_c key (encS label) _ (HK.out.on HB1.out) (by have := HL.out; omega) (by have := HE.out; have := HM.out; omega)).mono ?_; rintro e w2 ⟨rfl, hb2⟩; have HB2 := Lib.hid (HB1.out.trans (hb2.mono HB1.out.size)); clear hb2; rw [HD.out])
    go_ret
    exact ⟨rfl, HB2.out⟩
/-- a backup's numbers are the machine's -/
structure BK.mach (b : BK) : Prop where
  dom : b.dom.length = 16
  pol : b.pol.length = 16
  nums : ∀ x ∈ [b.ep, b.num, b.fw, b.tm], okI x
  mo : b.mo.length ≤ maxLen
/-- keys' numbers are the machine's -/
def numK (l : List K) : Prop := ∀ i, i < l.length → ∀ x ∈ numsK (keyAt l i), okI x
theorem wrap_ok {x : Int} (h : okI x) : IntKind.i64.wrap x = x := by unfold okI at h; rw [IntKind.wrap_i64]; omega
theorem numK.wf {l : List K} (h : numK l) : ∀ i, i < l.length → (keyAt l i).wf := fun i hi =>
  ⟨wrap_ok (h i hi _ (by unfold numsK; simp)), wrap_ok (h i hi _ (by unfold numsK; simp))⟩
theorem validB_mo {b : BK} {l : List K} (h : validB b l = true) : 1 ≤ b.mo.length ∧ b.mo.length ≤ 12 ∧ l.length ≤ 4096 := by
  unfold validB headB at h
  simp only [Bool.and_eq_true, decide_eq_true_eq] at h
  exact ⟨h.1.1.1.2, h.1.1.2, h.1.2⟩
theorem validB_val {b : BK} {l : List K} (h : validB b l = true) : ∀ i, i < l.length → validK (keyAt l i) = true := by
  intro i hi
  unfold validB at h
  simp only [Bool.and_eq_true, List.all_eq_true, List.mem_range] at h
  have h2 := h.2 i hi
  unfold okB at h2
  simp only [Bool.and_eq_true] at h2
  first | exact h2.1.1 | exact h2.1
theorem validK_val {k : K} (h : validK k = true) : k.val.length = 32 := by
  unfold validK at h
  simp only [Bool.and_eq_true, beq_iff_eq] at h
  omega
theorem BK.mach.wf {b : BK} (h : b.mach) (hm : b.mo.length ≤ 800000) : b.wf := ⟨h.dom, h.pol, h.nums, hm⟩
theorem catE_len_le {α : Type} (enc : α → List UInt8) (l : List α) (c : Nat) (h : ∀ x ∈ l, (enc x).length ≤ c) : (catE enc l).length ≤ l.length * c := by
  induction l with
  | nil => simp [catE_nil]
  | cons x l ih =>
    rw [catE_cons, List.length_append, List.length_cons, Nat.add_mul]
    have h1 := h x (by simp)
    have h2 := ih (fun y hy => h y (by simp [hy]))
    omega
theorem contP_len {b : BK} {l : List K} (h : validB b l = true) : (contP l).length ≤ l.length * 161 + 9 := by
  unfold contP encSs encL
  have h0 := encI_le ((l.map encKey).length : Int)
  have h1 := catE_len_le encS (l.map encKey) 161 (by
    intro x hx
    obtain ⟨k, hk, rfl⟩ := List.mem_map.1 hx
    obtain ⟨i, hi, rfl⟩ := List.mem_iff_getElem.1 hk
    have h2 := validK_val (validB_val h i hi)
    rw [keyAt_eq l i hi] at h2
    have h3 := encKey_len l[i]
    have h4 := encS_len (encKey l[i])
    omega)
  rw [List.length_append]
  rw [List.length_map] at h0 h1
  rw [List.length_map]
  omega
theorem keys_ok {b : BK} {l : List K} (hn : numK l) (h : validB b l = true) : ∀ i, i < l.length → (keyAt l i).ok := fun i hi =>
  ⟨hn i hi, by rw [validK_val (validB_val h i hi)]; decide⟩
/-- what Make answers -/
def makeOk (dk : List UInt8) (b : BK) (l : List K) : Bool := decide (dk.length = 32) && validB b l
def makeP (dk : List UInt8) (b : BK) (l : List K) : List UInt8 := encS (headP b) ++ sealP (deriveP dk bkL) (headP b) (contP l)
def makeX (dk : List UInt8) (b : BK) (l : List K) : List UInt8 := if makeOk dk b l = true then makeP dk b l else []
def makeE (dk : List UInt8) (b : BK) (l : List K) : Int := if makeOk dk b l = true then 0 else 1
theorem given_nil {R : Nat → SP} {w : World} {body : (Nat → Value) → Prop} {vals : Nat → Value} (h : body vals) : given R w body [] vals := h
theorem given_eq {R : Nat → SP} {w : World} {body : (Nat → Value) → Prop} {vals : Nat → Value} {j : Nat} {l : List Nat} {c : Value} (hr : R j = .eq c) (h : given R w body l (upd vals j c)) : given R w body (j :: l) vals := by
  unfold given
  rw [hr]
  exact h
theorem given_pred {R : Nat → SP} {w : World} {body : (Nat → Value) → Prop} {vals : Nat → Value} {j : Nat} {l : List Nat} {q : Value → World → Prop} {st : ∀ v w w', Below w.heap.size w w' → q v w → q v w'} (hr : R j = .pred q st) (h : ∀ x, q x w → given R w body l (upd vals j x)) : given R w body (j :: l) vals := by
  unfold given
  rw [hr]
  exact h
theorem makeE_cases (dk : List UInt8) (b : BK) (l : List K) : (makeOk dk b l = true ∧ makeE dk b l = 0 ∧ makeX dk b l = makeP dk b l) ∨ (makeOk dk b l = false ∧ makeE dk b l = 1 ∧ makeX dk b l = []) := by
  unfold makeE makeX
  cases makeOk dk b l
  · exact .inr ⟨rfl, rfl, rfl⟩
  · exact .inl ⟨rfl, rfl, rfl⟩
attribute [local irreducible] validB
set_option maxRecDepth 100000 in
set_option maxHeartbeats 2000000 in
theorem make_no (dk : List UInt8) (b : BK) (u : Value) (l : List K) (w : World) (hv : RdK w u l) (hb : b.mach) (hn : numK l) (h : makeOk dk b l = false) :
    Calls Tryz.prog 8 #[.string ⟨dk.toArray⟩, .agg (bc b u)] w fun e w' => e = .returned (.tuple #[.string ⟨#[]⟩, .int .i64 1]) ∧ Below w.heap.size w w' := by
  have HB0 : Hid ((w.alloc (.cells (bc b u) 26)).heap[w.heap.size]? = some (.cells (bc b u) 26 (0, 0))) := Lib.hid (heap_last _ _ _ rfl)
  have HBA : Hid (Below w.heap.size w (w.alloc (.cells (bc b u) 26))) := Lib.hid ((Below.refl _ _).alloc (Nat.le_refl _) _)
  have HVC := Lib.hid (validB_c b u l (w.alloc (.cells (bc b u) 26)) (hv.alloc _) hn.wf hb.mo)
  unfold makeOk at h
  clear hv hb hn
  by_cases h32 : dk.length = 32
  · rw [decide_eq_true h32, Bool.true_and] at h
    rw [h] at HVC
    have i1 : ((dk.length : Int) != 32) = false := by rw [h32]; rfl
    clear h h32
    go_enter Tryz.func8, Tryz.ntmps8
    go_wp2_with (first
      | (refine ld_bk b u rfl (.tmp 3) rfl _ rfl _ HB0.out ?_)
      | (go_at_call 13; refine HVC.out.mono ?_; rintro e w1 ⟨rfl, hb1⟩; have HB1 := Lib.hid (HBA.out.trans (hb1.mono HBA.out.size)); clear hb1))
    go_ret2
    exact ⟨rfl, HB1.out⟩
  · have i1 : ((dk.length : Int) != 32) = true := by simp; omega
    clear h h32
    go_enter Tryz.func8, Tryz.ntmps8
    go_wp2
    go_ret2
    exact ⟨rfl, HBA.out⟩
set_option maxRecDepth 100000 in
set_option maxHeartbeats 4000000 in
theorem make_c (dk : List UInt8) (b : BK) (u : Value) (l : List K) (w : World) (hk : KAt w) (hv : RdK w u l) (hb : b.mach) (hn : numK l) (h : makeOk dk b l = true) :
    Calls Tryz.prog 8 #[.string ⟨dk.toArray⟩, .agg (bc b u)] w fun e w' => e = .returned (.tuple #[.string ⟨(makeP dk b l).toArray⟩, .int .i64 0]) ∧ Below w.heap.size w w' := by
  have hb32 : dk.length = 32 ∧ validB b l = true := by unfold makeOk at h; simpa using h
  obtain ⟨h32, hval⟩ := hb32
  have hmo := validB_mo hval
  have HWF := Lib.hid (hb.wf (by omega))
  have HHL := Lib.hid (headP_len b HWF.out)
  have HMO := Lib.hid hmo
  have HCL := Lib.hid (contP_len hval)
  have HKO := Lib.hid (keys_ok hn hval)
  have H32 := Lib.hid h32
  have hv0 := hv
  obtain ⟨ua, uc, hu, _, _, _⟩ := hv0
  have HUF := Lib.hid hu
  obtain ⟨W0, hW0⟩ : ∃ W0, W0 = w.alloc (.cells (bc b u) 26) := ⟨_, rfl⟩
  have HB0 : Hid (W0.heap[w.heap.size]? = some (.cells (bc b u) 26 (0, 0))) := Lib.hid (by rw [hW0]; exact heap_last _ _ _ rfl)
  have HBA : Hid (Below w.heap.size w W0) := Lib.hid (by rw [hW0]; exact (Below.refl _ _).alloc (Nat.le_refl _) _)
  have HRD : Hid (RdK W0 u l) := Lib.hid (by rw [hW0]; exact hv.alloc _)
  have HKA : Hid (KAt W0) := Lib.hid (by rw [hW0]; exact hk.alloc _)
  have HVC := Lib.hid (validB_c b u l W0 HRD.out hn.wf hb.mo)
  rw [hval] at HVC
  have HMP : Hid (makeP dk b l = encS (headP b) ++ sealP (deriveP dk bkL) (headP b) (contP l)) := Lib.hid rfl
  have i1 : ((dk.length : Int) != 32) = false := by rw [h32]; rfl
  have HW := Lib.hid hW0
  have HDL := Lib.hid (deriveP_len dk bkL)
  have HBK : Hid (bkL = [98, 97, 99, 107, 117, 112]) := Lib.hid rfl
  clear h h32 hval hmo hv hb hn hk hW0 hu
  go_enter Tryz.func8, Tryz.ntmps8
  go_upto_region 1 with fail
  rw [← HW.out]
  go_upto_region 4 with (first
    | (refine ld_bk b u rfl (.tmp 3) rfl _ rfl _ HB0.out ?_)
    | (go_at_call 13; refine HVC.out.mono ?_; rintro e w1 ⟨rfl, hb1⟩; have HB1 := Lib.hid hb1; have HBB1 : Hid (w1.heap[w.heap.size]? = some (.cells (bc b u) 26 (0, 0))) := (Lib.hid (by rw [hb1.block _ (Array.getElem?_eq_some_iff.1 HB0.out).1]; exact HB0.out)); clear hb1)
    | (refine ld_bk b u rfl (.tmp 3) rfl _ rfl _ HBB1.out ?_)
    | (go_at_call 16; refine (header_c b u _ HWF.out).mono ?_; rintro e w2 ⟨rfl, hb2⟩; have HB2 := Lib.hid (HB1.out.trans (hb2.mono HB1.out.size)); clear hb2))
  generalize hhp : headP b = hp at HHL HMP ⊢
  have HHP := Lib.hid hhp
  generalize hcp : contP l = cp at HCL HMP
  have HCP := Lib.hid hcp
  generalize hdp : deriveP dk bkL = dp at HDL HMP
  have HDP := Lib.hid hdp
  clear hhp hcp hdp
  try dsimp only [Act.put]
  refine region_rel 11 [[], [0], [], [], [3], [4], [1, 2, 5], [6], [7], [7], [8]] (SP.of [.eq (.string ⟨dk.toArray⟩), .eq (.string ⟨dp.toArray⟩), .eq (.string ⟨hp.toArray⟩), .eq (.pointer (some ⟨w.heap.size, 37, none⟩)), .eq u, .eq (.string ⟨cp.toArray⟩), .eq (.tuple #[.string ⟨(sealP dp hp cp).toArray⟩, .int .i64 0]), .eq (.tuple #[.string ⟨(sealP dp hp cp).toArray⟩, .int .i64 0]), .eq (.string ⟨(sealP dp hp cp).toArray⟩), .eq (.int .i64 0), .eq (.string ⟨(sealP dp hp cp).toArray⟩)]) (fun _ => undef) ?h1 ?h2 ?h3 ?h4 ?h5 ?h6
  case h1 => kernel_rfl
  case h2 => kernel_rfl
  case h3 => kernel_rfl
  case h4 =>
    simp only [List.take_succ_cons, List.take_zero]
    repeat (first | exact trivial | refine ⟨fun vals v => by kernel_rfl, ?_⟩)
  case h5 =>
    simp only [List.take_succ_cons, List.take_zero]
    refine ⟨?_, ?_, ?_, ?_, ?_, ?_, ?_, ?_, ?_, ?_, ?_, trivial⟩
    all_goals (intro wq hbq vals; simp only [Nat.reduceAdd, Nat.zero_add, List.getD_cons_succ, List.getD_cons_zero]; repeat (first | refine given_nil ?_ | refine given_eq rfl ?_); have HBQ : Hid (Below W0.heap.size W0 wq) := Lib.hid (HB2.out.trans (hbq.mono HB2.out.size)); clear hbq; intro Q hQ; simp only [putAll, upd, Act.put, List.setIfInBounds_toArray, List.set_cons_zero, List.set_cons_succ, Nat.reduceAdd, Nat.zero_add, Nat.reduceEqDiff, if_true, if_false, reduceIte])
    case refine_2 =>
      go_wp2_with (go_at_call 26; refine (derive_c dk bkL _ (HKA.out.on HBQ.out) (by rw [H32.out]; decide) (by decide)).mono ?_; rintro e x1 ⟨rfl, hx1⟩; rw [HDP.out])
      exact relEnd_fin hQ _ (by kernel_rfl) hx1 rfl
    case refine_5 =>
      have c37 : wq.cell? ⟨w.heap.size, 37, none⟩ = some u := by
        rw [HBQ.out.cell (p := ⟨w.heap.size, 37, none⟩) (Array.getElem?_eq_some_iff.1 HB0.out).1, cell_of_row _ _ _ _ _ _ HB0.out]
        exact bc_37 b u
      rw [HUF.out] at c37
      go_wp2
      exact relEnd_fin hQ (.slice ua l.length uc) (by kernel_rfl) (Below.refl _ _) HUF.out.symm
    case refine_6 =>
      go_wp2_with (go_at_call 27; refine (content_c u l _ (HRD.out.on HBQ.out) HKO.out (by have := HMO.out; omega) (by rw [HCP.out]; have := HCL.out; have := HMO.out; omega)).mono ?_; rintro e x1 ⟨rfl, hx1⟩; rw [HCP.out])
      exact relEnd_fin hQ _ (by kernel_rfl) hx1 rfl
    case refine_7 =>
      go_wp2_with (go_at_call 25; refine (seal_c dp hp cp _ (HKA.out.on HBQ.out) HDL.out (by have := HHL.out.2; have := HMO.out; omega) (by have := HCL.out; have := HMO.out; omega)).mono ?_; rintro e x1 ⟨rfl, hx1⟩)
      exact relEnd_fin hQ _ (by kernel_rfl) hx1 rfl
    all_goals go_wp2
    all_goals exact relEnd_fin hQ _ (by kernel_rfl) (Below.refl _ _) rfl
  case h6 =>
    intro wq hbq vals
    rw [show List.range 11 = [0, 1, 2, 3, 4, 5, 6, 7, 8, 9, 10] from by decide]
    repeat (first | refine given_nil ?_ | refine given_eq rfl ?_)
    simp only [List.take_succ_cons, List.take_zero, List.drop_succ_cons, List.drop_zero]
    simp only [putAll, upd, Act.put, List.setIfInBounds_toArray, List.set_cons_zero, List.set_cons_succ, Nat.reduceAdd, Nat.zero_add, Nat.reduceEqDiff, if_true, if_false, reduceIte]
    have HBQ : Hid (Below W0.heap.size W0 wq) := Lib.hid (HB2.out.trans (hbq.mono HB2.out.size))
    clear hbq
    have HSL : Hid ((encS hp).length + (sealP dp hp cp).length ≤ 2000000) := Lib.hid (by have h1 := encS_len hp; have h2 := sealP_len dp hp cp; have h3 := HHL.out.2; have h4 := HMO.out; have h5 := HCL.out; omega)
    generalize sealP dp hp cp = sp at HMP HSL ⊢
    have hcat : ¬ 9223372036854775807 < (encS hp).length + sp.length := by have := HSL.out; omega
    go_wp2_with (go_at_call 28; refine (bytes_c hp _ (by have := HHL.out.2; have := HMO.out; omega)).mono ?_; rintro e w5 ⟨v5, rfl, ho5, hb5⟩; have HB5 := Lib.hid (HBQ.out.trans (hb5.mono HBQ.out.size)); have hcv := conv_e ho5.rd; clear ho5 hb5)
    go_ret2
    exact ⟨by rw [HMP.out]; rfl, HBA.out.trans (HB5.out.mono HBA.out.size)⟩
theorem make_t (dk : List UInt8) (b : BK) (u : Value) (l : List K) (w : World) (hk : KAt w) (hv : RdK w u l) (hb : b.mach) (hn : numK l) :
    Calls Tryz.prog 8 #[.string ⟨dk.toArray⟩, .agg (bc b u)] w fun e w' => e = .returned (.tuple #[.string ⟨(makeX dk b l).toArray⟩, .int .i64 (makeE dk b l)]) ∧ Below w.heap.size w w' := by
  rcases makeE_cases dk b l with ⟨h1, h2, h3⟩ | ⟨h1, h2, h3⟩
  · rw [h2, h3]; exact make_c dk b u l w hk hv hb hn h1
  · rw [h2, h3]; exact make_no dk b u l w hv hb hn h1
end Go.Proofs.YtbpjdfnnlmblaaaGreatDoor
/- The specification's digests as texts; its derivation of keys. -/
namespace Go.Proofs.YtbpjdfnnlmblaaaGreatDoor
open Go.RowKit Go.Shelf
set_option linter.unusedSimpArgs false
set_option linter.unusedVariables false
theorem dcell_is (d : List UInt8) (i : Nat) : dcell d i = .int .u8 (B8 (byteAt d i)) := rfl
theorem drow_get (d : List UInt8) (j : Nat) (h : j < 16) : (drow d)[j]? = some (.int .u8 (B8 (byteAt d j))) := by
  have e : drow d = ((List.range 16).map (dcell d)).toArray := rfl
  rw [e, ← dcell_is]
  simp [h]
theorem take_dig (d : List UInt8) (i : Nat) (h : i < d.length) : d.take i ++ [byteAt d i] = d.take (i + 1) := by
  rw [List.take_add_one, List.getElem?_eq_getElem h]
  unfold byteAt
  rw [List.getD_eq_getElem?_getD, List.getElem?_eq_getElem h]
  rfl
attribute [local irreducible] Calls drow mac encS
set_option maxRecDepth 100000 in
set_option maxHeartbeats 2000000 in
theorem text_r (d : List UInt8) (hd : d.length = 16) (w : World) :
    Calls Tryz.prog 42 #[.agg (drow d)] w fun e w' => e = .returned (.string ⟨d.toArray⟩) ∧ Below w.heap.size w w' := by
  obtain ⟨W0, hW0⟩ : ∃ W0, W0 = w.alloc (.cells (drow d) 23) := ⟨_, rfl⟩
  have HBE : Hid (Below w.heap.size w W0) := Lib.hid (by rw [hW0]; exact (Below.refl _ _).alloc (Nat.le_refl _) _)
  have HROW : Hid (W0.heap[w.heap.size]? = some (.cells (drow d) 23 (0, 0))) := Lib.hid (by rw [hW0]; exact heap_last _ _ _ rfl)
  have HW := Lib.hid hW0
  have HD := Lib.hid hd
  clear hW0 hd
  go_enter Tryz.func42, Tryz.ntmps42
  go_upto_region 1 with fail
  rw [← HW.out]
  go_wp2
  go_loopw [4, 3] (fun i o wr => ∃ j : Nat, j ≤ 16 ∧ i = .int .i64 j ∧ Hid (OwnE eB wr W0.heap.size o (d.take j)) ∧ Hid (Below W0.heap.size W0 wr)) (fun i _ _ => 16 - (intOf i).toNat)
  case atStart => exact ⟨0, Nat.zero_le _, rfl, Lib.hid (OwnE.nil _ _), Lib.hid (Below.refl _ _)⟩
  case round =>
    obtain ⟨j, hj, rfl, hown, hb⟩ := hrel
    by_cases hlt : j < 16
    · have j1 : (j : Int) < 16 := by omega
      have hlt0 := (Array.getElem?_eq_some_iff.1 HROW.out).1
      have cj : wr.cell? ⟨w.heap.size, j, none⟩ = some (.int .u8 (B8 (byteAt d j))) := by
        rw [hb.out.cell (p := ⟨w.heap.size, j, none⟩) hlt0, cell_of_row _ _ _ _ _ _ HROW.out]
        exact drow_get d j hlt
      have HT := Lib.hid (take_dig d j (by rw [HD.out]; exact hlt))
      generalize byteAt d j = c at cj HT
      have HJ := Lib.hid hlt
      have HL : Hid ((d.take j).length ≤ 16) := Lib.hid (by rw [List.length_take]; omega)
      clear hlt hlt0
      go_wp2_with (at_builtin; go_loud (refine app_e eB_ok rfl (.tmp 9) (.tmp 13) rfl W0.heap.size _ _ rfl (hown.out.on ((Below.refl _ _).alloc (Nat.le_refl _) _)) (.slice (some ⟨wr.heap.size, 0, none⟩) 1 1) [c] rfl (one_e wr c eB_ok) (by have := HL.out; simp; omega) (by have := hb.out.size; simp; omega) ?_); intro v5 w4 ho4 hg4 hloc; have HB4 := Lib.hid (hb.out.trans (((Below.refl wr.heap.size wr).alloc (Nat.le_refl _) (.cells #[.int .u8 (B8 c)] 5)).mono hb.out.size |>.trans ((hown.out.on ((Below.refl _ _).alloc (Nat.le_refl _) _)).below hg4 (by have := hb.out.size; simp; omega)))); have HO4 := Lib.hid ho4; clear ho4 hg4 hloc)
      go_roundw
      case rel => exact ⟨j + 1, HJ.out, by go_num, Lib.hid (by rw [← HT.out]; exact HO4.out), HB4⟩
      case measure => have := HJ.out; simp [intOf]; omega
    · have he : j = 16 := by omega
      have j1 : ¬ (j : Int) < 16 := by omega
      have HF : Hid (d.take j = d) := Lib.hid (by rw [he, ← HD.out, List.take_length])
      have hcv := conv_e hown.out.rd
      rw [HF.out] at hcv
      clear he hlt hj
      go_wp2
      go_ret
      exact ⟨rfl, HBE.out.trans (hb.out.mono HBE.out.size)⟩
set_option maxRecDepth 100000 in
set_option maxHeartbeats 2000000 in
theorem input_r (s : List UInt8) (w : World) (hl : s.length ≤ 100000) :
    Calls Tryz.prog 70 #[.string ⟨s.toArray⟩, .slice none 0 0] w fun e w' => e = .returned (.string ⟨(encS s).toArray⟩) ∧ Below w.heap.size w w' := by
  have HE := Lib.hid (empty_e (E := eB) w rfl)
  have HL := Lib.hid hl
  have HEL := Lib.hid (encS_len s)
  have HBA : Hid (Below w.heap.size w (w.alloc (.cells #[] 5))) := Lib.hid ((Below.refl _ _).alloc (Nat.le_refl _) _)
  clear hl
  go_enter Tryz.func70, Tryz.ntmps70
  go_wp2_with (first
    | (go_at_call 32; refine (bytes_r s _ (by have := HL.out; omega)).mono ?_; rintro e w1 ⟨v1, rfl, ho1, hb1⟩; have HO1 := Lib.hid ho1; have HB1 := Lib.hid hb1; clear ho1 hb1)
    | (at_builtin; go_loud (refine app_e eB_ok rfl (.tmp 7) (.tmp 9) rfl w.heap.size _ [] rfl (HE.out.on HB1.out) v1 (encS s) rfl HO1.out.rd (by have := HEL.out; have := HL.out; simp; omega) (Nat.le_trans HBA.out.size HB1.out.size) ?_); intro v2 w2 ho2 hg2 hloc; have HB2 := Lib.hid ((HBA.out.trans (HB1.out.mono HBA.out.size)).trans ((HE.out.on HB1.out).below hg2 (Nat.le_trans HBA.out.size HB1.out.size))); have HO2 : Hid (OwnE eB w2 w.heap.size v2 (encS s)) := (Lib.hid ho2); clear ho2 hg2 hloc))
  go_loopw [6, 5] (fun i o wr => i = .int .i64 0 ∧ o = v2 ∧ wr = w2) (fun _ _ _ => 0)
  case atStart => exact ⟨rfl, rfl, rfl⟩
  case round =>
    obtain ⟨rfl, rfl, hwr⟩ := hrel
    rw [hwr]
    clear hwr
    have hcv := conv_e HO2.out.rd
    go_wp2
    go_ret
    exact ⟨rfl, HB2.out⟩
set_option maxRecDepth 100000 in
set_option maxHeartbeats 2000000 in
theorem derive_r (key label : List UInt8) (w : World) (hk : K0At w) (hl : key.length ≤ 400000) (hm : label.length ≤ 1000) :
    Calls Tryz.prog 30 #[.string ⟨key.toArray⟩, .string ⟨label.toArray⟩, .slice none 0 0] w fun e w' => e = .returned (.string ⟨(deriveP key label).toArray⟩) ∧ Below w.heap.size w w' := by
  have HK := Lib.hid hk
  have HL := Lib.hid hl
  have HM := Lib.hid hm
  have HD : Hid (mac key (encS label) = deriveP key label) := Lib.hid rfl
  have HE := Lib.hid (encS_len label)
  clear hk hl hm
  go_enter Tryz.func30, Tryz.ntmps30
  go_wp2_with (first
    | (go_at_call 70; refine (input_r label _ (by have := HM.out; omega)).mono ?_; rintro e w1 ⟨rfl, hb1⟩; have HB1 := Lib.hid hb1; clear hb1)
    | (go_at_call 69; refine (mac_r key (encS label) _ (HK.out.on HB1.out) HL.out (by have := HE.out; have := HM.out; omega)).mono ?_; rintro e w2 ⟨rfl, hb2⟩; have HB2 := Lib.hid (HB1.out.trans (hb2.mono HB1.out.size)); clear hb2; rw [HD.out]))
  go_ret
  exact ⟨rfl, HB2.out⟩
end Go.Proofs.YtbpjdfnnlmblaaaGreatDoor
