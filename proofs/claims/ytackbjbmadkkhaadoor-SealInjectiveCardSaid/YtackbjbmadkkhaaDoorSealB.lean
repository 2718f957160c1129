/- The program's Open. -/
import Derived.Test.YtackbjbmadkkhaaDoorSealA
import Derived.Test.YtackbjbmadkkhaaDoorRegRel
namespace Go.Proofs.YtackbjbmadkkhaaDoor
open Go.RowKit
set_option linter.unusedSimpArgs false
set_option linter.unusedVariables false
theorem cells_of (w : World) (bk : Nat) (xs : List (List UInt8)) (T : TypeId) (hg : w.heap[bk]? = some (.cells (xs.map (fun x => Value.string ⟨x.toArray⟩)).toArray T (0, 0))) : ∀ (j : Nat) x, xs[j]? = some x → w.cell? ⟨bk, j, none⟩ = some (.string ⟨x.toArray⟩) := by
  intro j x hx
  rw [cell_of_row _ _ _ _ _ _ hg]
  simp [hx]
theorem tag_h (m n ad c : List UInt8) (bk : Nat) (w : World) (T : TypeId) (hk : KAt w) (hm : m.length = 32) (hn : n.length ≤ 2000000) (ha : ad.length ≤ 2000000) (hc : c.length ≤ 2000000)
    (hg : w.heap[bk]? = some (.cells #[.string ⟨#[116, 97, 103]⟩, .string ⟨n.toArray⟩, .string ⟨(encS ad).toArray⟩, .string ⟨c.toArray⟩] T (0, 0))) :
    Calls Tryd.prog 20 #[.string ⟨m.toArray⟩, .int .i64 16, .slice (some ⟨bk, 0, none⟩) 4 4] w fun e w' => e = .returned (.string ⟨(tagP m n ad c).toArray⟩) ∧ Below w.heap.size w w' := by
  have h := code_c m 16 bk [[116, 97, 103], n, encS ad, c] w hk (by decide) (by omega) (cells_of w bk [[116, 97, 103], n, encS ad, c] T hg) (Array.getElem?_eq_some_iff.1 hg).1 (by simp) (by have := encS_len ad; simp; omega)
  have e : [[116, 97, 103], n, encS ad, c].flatten = [116, 97, 103] ++ (n ++ (encS ad ++ c)) := by simp
  rw [e] at h
  exact h
/-- a slice over a block of this content, made here -/
def SP.freshS (B : Nat) (n : Nat) (cs : Array Value) (T : TypeId) : SP :=
  .pred (fun v w => ∃ g : Nat, v = .slice (some ⟨g, 0, none⟩) n n ∧ B ≤ g ∧ w.heap[g]? = some (.cells cs T (0, 0)))
    (fun v w w' hb ⟨g, e, h1, h2⟩ => ⟨g, e, h1, by rw [hb.block _ (Array.getElem?_eq_some_iff.1 h2).1]; exact h2⟩)
/-- what Open answers -/
def openV : Option (List UInt8) → Value
  | some x => .tuple #[.string ⟨x.toArray⟩, .int .i64 0]
  | none => .tuple #[.string ⟨#[]⟩, .int .i64 8]
attribute [local irreducible] Calls mac encS nonceP tagP xorP encK macK
set_option maxRecDepth 100000 in
set_option maxHeartbeats 2000000 in
theorem open_no (key ad t : List UInt8) (w : World) (hl : ¬ key.length = 32) :
    Calls Tryd.prog 14 #[.string ⟨key.toArray⟩, .string ⟨ad.toArray⟩, .string ⟨t.toArray⟩] w fun e w' => e = .returned (.tuple #[.string ⟨#[]⟩, .int .i64 1]) ∧ Below w.heap.size w w' := by
  go_enter Tryd.func14, Tryd.ntmps14
  go_wp2_with (go_at_call 10; refine (keys_no key _ hl).mono ?_; rintro e w1 ⟨rfl, hb1⟩)
  go_ret2
  exact ⟨rfl, hb1⟩
set_option maxRecDepth 100000 in
set_option maxHeartbeats 2000000 in
theorem open_short (key ad t : List UInt8) (w : World) (hk : KAt w) (hl : key.length = 32) (ha : ad.length ≤ 1048576) (ht : t.length < 28) :
    Calls Tryd.prog 14 #[.string ⟨key.toArray⟩, .string ⟨ad.toArray⟩, .string ⟨t.toArray⟩] w fun e w' => e = .returned (.tuple #[.string ⟨#[]⟩, .int .i64 5]) ∧ Below w.heap.size w w' := by
  have i1 : ¬ (1048576 : Int) < ad.length := by omega
  have i2 : ¬ (1048604 : Int) < t.length := by omega
  have i3 : (t.length : Int) < 28 := by omega
  clear ha ht
  go_enter Tryd.func14, Tryd.ntmps14
  go_wp2_with (go_at_call 10; refine (keys_c key _ hk hl).mono ?_; rintro e w1 ⟨rfl, hb1⟩)
  go_ret2
  exact ⟨rfl, hb1⟩
set_option maxRecDepth 100000 in
set_option maxHeartbeats 2000000 in
theorem open_lim (key ad t : List UInt8) (w : World) (hk : KAt w) (hl : key.length = 32) (h : 1048576 < ad.length ∨ 1048604 < t.length) :
    Calls Tryd.prog 14 #[.string ⟨key.toArray⟩, .string ⟨ad.toArray⟩, .string ⟨t.toArray⟩] w fun e w' => e = .returned (.tuple #[.string ⟨#[]⟩, .int .i64 2]) ∧ Below w.heap.size w w' := by
  by_cases h1 : 1048576 < ad.length
  · have i1 : (1048576 : Int) < ad.length := by omega
    clear h h1
    go_enter Tryd.func14, Tryd.ntmps14
    go_wp2_with (go_at_call 10; refine (keys_c key _ hk hl).mono ?_; rintro e w1 ⟨rfl, hb1⟩)
    go_ret2
    exact ⟨rfl, hb1⟩
  · have i1 : ¬ (1048576 : Int) < ad.length := by omega
    have i2 : (1048604 : Int) < t.length := by omega
    clear h h1
    go_enter Tryd.func14, Tryd.ntmps14
    go_wp2_with (go_at_call 10; refine (keys_c key _ hk hl).mono ?_; rintro e w1 ⟨rfl, hb1⟩)
    go_ret2
    exact ⟨rfl, hb1⟩
set_option maxRecDepth 100000 in
set_option maxHeartbeats 2000000 in
theorem open_c (key ad t : List UInt8) (w : World) (hk : KAt w) (hl : key.length = 32) (ha : ad.length ≤ 1048576) (ht : 28 ≤ t.length) (ht2 : t.length ≤ 1048604) :
    Calls Tryd.prog 14 #[.string ⟨key.toArray⟩, .string ⟨ad.toArray⟩, .string ⟨t.toArray⟩] w fun e w' => e = .returned (openV (openP key ad t)) ∧ Below w.heap.size w w' := by
  have HL := Lib.hid hl
  have HK := Lib.hid hk
  have HA := Lib.hid ha
  have HT := Lib.hid ht2
  have HT1 := Lib.hid ht
  have i1 : ¬ (1048576 : Int) < ad.length := by omega
  have i2 : ¬ (1048604 : Int) < t.length := by omega
  have i3 : ¬ (t.length : Int) < 28 := by omega
  have hti : (28 : Int) ≤ t.length := by omega
  have hti2 : (t.length : Int) ≤ 1048604 := by omega
  have HEL := Lib.hid (encK_len key)
  have HML := Lib.hid (macK_len key)
  have HEN := Lib.hid (encS_len ad)
  clear hl hk ha
  go_enter Tryd.func14, Tryd.ntmps14
  go_upto_region 9 with (first
    | (go_at_call 10; refine (keys_c key _ HK.out HL.out).mono ?_; rintro e w1 ⟨rfl, hb1⟩; have HB1 := Lib.hid hb1; clear hb1; generalize hek : encK key = ek; generalize hmk : macK key = mk; have HEK := Lib.hid hek; have HMK := Lib.hid hmk; clear hek hmk)
    | (go_at_call 19; refine (bytes_c ad _ (by have := HA.out; omega)).mono ?_; rintro e w2 ⟨v2, rfl, ho2, hb2⟩; have HB2 := Lib.hid (HB1.out.trans (hb2.mono HB1.out.size)); have hcv := conv_e ho2.rd; clear ho2 hb2))
  refine all0 (by kernel_rfl) (by kernel_rfl) ?_
  repeat (go_big_quiet_step (fail))
  refine wpQuiet_nil ?_
  rintro _ ⟨nq, rfl⟩
  go_upto_region 10 with fail
  have HKN : Hid (KAt (w2.drewN nq)) := Lib.hid (HK.out.on (below_drewN nq HB2.out))
  have HBN : Hid (Below w.heap.size w (w2.drewN nq)) := Lib.hid (below_drewN nq HB2.out)
  generalize w2.drewN nq = w3 at HKN HBN ⊢
  obtain ⟨nn, hnn⟩ : ∃ nn, bN t = nn := ⟨_, rfl⟩
  obtain ⟨cc, hcc⟩ : ∃ cc, bC t = cc := ⟨_, rfl⟩
  obtain ⟨tt, htt⟩ : ∃ tt, bT t = tt := ⟨_, rfl⟩
  have HNN := Lib.hid hnn
  have HCC := Lib.hid hcc
  have HTT := Lib.hid htt
  have HNL : Hid (nn.length = 12) := Lib.hid (by rw [← hnn]; unfold bN; rw [List.length_take]; omega)
  have HCL : Hid (cc.length ≤ 1048604) := Lib.hid (by rw [← hcc]; unfold bC; rw [List.length_take, List.length_drop]; omega)
  have hft : (t.drop (t.length - 16)).take (t.length - (t.length - 16)) = tt := by
    rw [← htt]
    unfold bT
    exact List.take_of_length_le (by rw [List.length_drop]; exact Nat.le_refl _)
  have hft2 : t.drop (t.length - 16) = tt := htt
  unfold bN at hnn
  unfold bC at hcc
  rw [hnn, hcc]
  clear hnn hcc htt
  have HMKL : Hid (mk.length = 32) := Lib.hid (by rw [← HMK.out]; exact HML.out)
  have HEKL : Hid (ek.length = 32) := Lib.hid (by rw [← HEK.out]; exact HEL.out)
  refine region_rel 9 [[], [], [], [], [1, 2, 3], [0, 4], [], [], [6, 7]] (SP.of [.eq (.string ⟨mk.toArray⟩), .eq (.string ⟨nn.toArray⟩), .eq (.string ⟨(encS ad).toArray⟩), .eq (.string ⟨cc.toArray⟩), .freshS w3.heap.size 4 #[.string ⟨#[116, 97, 103]⟩, .string ⟨nn.toArray⟩, .string ⟨(encS ad).toArray⟩, .string ⟨cc.toArray⟩] 9, .eq (.string ⟨(tagP mk nn ad cc).toArray⟩), .eq (.string ⟨t.toArray⟩), .eq (.int .i64 ((t.length : Int) - 16)), .eq (.string ⟨tt.toArray⟩)]) (fun _ => undef) ?h1 ?h2 ?h3 ?h4 ?h5 ?h6
  case h1 => kernel_rfl
  case h2 => kernel_rfl
  case h3 => kernel_rfl
  case h4 =>
    simp only [List.take_succ_cons, List.take_zero]
    repeat (first | exact trivial | refine ⟨fun vals v => by kernel_rfl, ?_⟩)
  case h5 =>
    simp only [List.take_succ_cons, List.take_zero]
    refine ⟨?_, ?_, ?_, ?_, ?_, ?_, ?_, ?_, ?_, trivial⟩
    all_goals (intro wq hbq vals; simp only [given, SP.of, SP.freshS, Nat.reduceAdd, Nat.zero_add, List.getD_cons_succ, List.getD_cons_zero]; have HBQ := Lib.hid hbq; clear hbq)
    case refine_5 =>
      intro Q hQ; simp only [putAll, upd, Act.put, List.setIfInBounds_toArray, List.set_cons_zero, List.set_cons_succ, Nat.reduceAdd, Nat.zero_add, Nat.reduceEqDiff, if_true, if_false, reduceIte]
      go_wp2
      exact relEnd_fin hQ _ (by kernel_rfl) ((Below.refl _ _).alloc (Nat.le_refl _) _) ⟨wq.heap.size, rfl, HBQ.out.size, heap_last _ _ _ rfl⟩
    case refine_6 =>
      rintro _ ⟨g, rfl, hg1, hg2⟩ Q hQ
      simp only [putAll, upd, Act.put, List.setIfInBounds_toArray, List.set_cons_zero, List.set_cons_succ, Nat.reduceAdd, Nat.zero_add, Nat.reduceEqDiff, if_true, if_false, reduceIte]
      have HG2 := Lib.hid hg2
      clear hg1 hg2
      go_wp2_with (go_at_call 20; refine (tag_h mk nn ad cc g _ _ (HKN.out.on HBQ.out) HMKL.out (by rw [HNL.out]; decide) (by have := HA.out; omega) (by have := HCL.out; omega) HG2.out).mono ?_; rintro e x1 ⟨rfl, hx1⟩)
      exact relEnd_fin hQ _ (by kernel_rfl) hx1 rfl
    case refine_9 =>
      intro Q hQ; simp only [putAll, upd, Act.put, List.setIfInBounds_toArray, List.set_cons_zero, List.set_cons_succ, Nat.reduceAdd, Nat.zero_add, Nat.reduceEqDiff, if_true, if_false, reduceIte]
      have HFT := Lib.hid hft
      clear hft hft2
      go_wp2
      rw [HFT.out]
      exact relEnd_fin hQ _ (by kernel_rfl) (Below.refl _ _) rfl
    all_goals (intro Q hQ; simp only [putAll, upd, Act.put, List.setIfInBounds_toArray, List.set_cons_zero, List.set_cons_succ, Nat.reduceAdd, Nat.zero_add, Nat.reduceEqDiff, if_true, if_false, reduceIte])
    all_goals go_wp2
    all_goals exact relEnd_fin hQ _ (by kernel_rfl) (Below.refl _ _) rfl
  case h6 =>
    intro w4 hb4 vals
    show given _ _ _ [0, 1, 2, 3, 4, 5, 6, 7, 8] _
    simp only [given, SP.of, SP.freshS, List.getD_cons_succ, List.getD_cons_zero]
    rintro _ ⟨g, rfl, hg1, hg2⟩
    simp only [List.take_succ_cons, List.take_zero, List.drop_succ_cons, List.drop_zero]
    simp only [putAll, upd, Act.put, List.setIfInBounds_toArray, List.set_cons_zero, List.set_cons_succ, Nat.reduceAdd, Nat.zero_add, Nat.reduceEqDiff, if_true, if_false, reduceIte]
    have HB4 := Lib.hid (HBN.out.trans (hb4.mono HBN.out.size))
    clear hb4 hg1 hg2
    generalize htg : tagP mk nn ad cc = tg
    have HTG := Lib.hid htg
    clear htg hft hft2
    have HO : Hid (openP key ad t = if tg = tt ∧ nonceP mk ad (xorP ek nn cc) = nn then some (xorP ek nn cc) else none) := Lib.hid (by unfold openP; rw [HNN.out, HCC.out, HTT.out, HMK.out, HEK.out, HTG.out])
    by_cases hteq : tg = tt
    · have e1 : (tg == tt) = true := by simpa using hteq
      have HTE := Lib.hid hteq
      clear hteq
      go_upto_region 13 with (go_at_call 21; refine (xor1_c ek nn cc HEKL.out HNL.out (by have := HCL.out; omega) _).mono ?_; rintro e w5 ⟨rfl, hb5⟩; have HB5 := Lib.hid (HB4.out.trans (hb5.mono HB4.out.size)); clear hb5; generalize hx : xorP ek nn cc = xc at HO ⊢; have HXL : Hid (xc.length = cc.length) := (Lib.hid (by rw [← hx]; exact xorP_len _ _ _)); clear hx)
      generalize hnc : nonceP mk ad xc = n2 at HO
      have HNC := Lib.hid hnc
      clear hnc
      by_cases hneq : n2 = nn
      · have e2 : (n2 == nn) = true := by simpa using hneq
        have HNE := Lib.hid hneq
        clear hneq
        go_wp2_with (go_at_call 20; refine (nonce_c mk ad xc w5 (HK.out.on HB5.out) HMKL.out (by have := HA.out; omega) (by rw [HXL.out]; have := HCL.out; omega)).mono ?_; rintro e w6 ⟨rfl, hb6⟩; have HB6 := Lib.hid (HB5.out.trans (hb6.mono HB5.out.size)); clear hb6; rw [HNC.out])
        go_ret2
        exact ⟨by rw [HO.out, if_pos ⟨HTE.out, HNE.out⟩]; rfl, HB6.out⟩
      · have e2 : (n2 == nn) = false := by simpa using hneq
        have HNE := Lib.hid hneq
        clear hneq
        go_wp2_with (go_at_call 20; refine (nonce_c mk ad xc w5 (HK.out.on HB5.out) HMKL.out (by have := HA.out; omega) (by rw [HXL.out]; have := HCL.out; omega)).mono ?_; rintro e w6 ⟨rfl, hb6⟩; have HB6 := Lib.hid (HB5.out.trans (hb6.mono HB5.out.size)); clear hb6; rw [HNC.out])
        go_ret2
        exact ⟨by rw [HO.out, if_neg (fun h => HNE.out h.2)]; rfl, HB6.out⟩
    · have e1 : (tg == tt) = false := by simpa using hteq
      have HTE := Lib.hid hteq
      clear hteq
      go_wp2
      go_ret2
      exact ⟨by rw [HO.out, if_neg (fun h => HTE.out h.1)]; rfl, HB4.out⟩
/-- the answers, whatever the lengths are -/
def openX (key ad t : List UInt8) : List UInt8 := if key.length = 32 ∧ ¬ (1048576 < ad.length ∨ 1048604 < t.length) ∧ ¬ t.length < 28 then (openP key ad t).getD [] else []
def openE (key ad t : List UInt8) : Int := if key.length = 32 then (if 1048576 < ad.length ∨ 1048604 < t.length then 2 else if t.length < 28 then 5 else if (openP key ad t).isSome then 0 else 8) else 1
theorem openV_eq (o : Option (List UInt8)) : openV o = .tuple #[.string ⟨(o.getD []).toArray⟩, .int .i64 (if o.isSome then 0 else 8)] := by
  cases o <;> rfl
theorem open_t (key ad t : List UInt8) (w : World) (hk : KAt w) :
    Calls Tryd.prog 14 #[.string ⟨key.toArray⟩, .string ⟨ad.toArray⟩, .string ⟨t.toArray⟩] w fun e w' => e = .returned (.tuple #[.string ⟨(openX key ad t).toArray⟩, .int .i64 (openE key ad t)]) ∧ Below w.heap.size w w' := by
  unfold openX openE
  by_cases h : key.length = 32
  · by_cases h2 : 1048576 < ad.length ∨ 1048604 < t.length
    · rw [if_neg (fun e => e.2.1 h2), if_pos h, if_pos h2]
      exact open_lim key ad t w hk h h2
    · by_cases h3 : t.length < 28
      · rw [if_neg (fun e => e.2.2 h3), if_pos h, if_neg h2, if_pos h3]
        exact open_short key ad t w hk h (by omega) h3
      · rw [if_pos ⟨h, h2, h3⟩, if_pos h, if_neg h2, if_neg h3, ← openV_eq]
        exact open_c key ad t w hk h (by omega) (by omega) (by omega)
  · rw [if_neg (fun e => h e.1), if_neg h]
    exact open_no key ad t w h
end Go.Proofs.YtackbjbmadkkhaaDoor
