/- The specification's text. -/
import Derived.Test.YtackbjbmadkkhaaDoorCipH
import Derived.Test.YtackbjbmadkkhaaDoorCipF
import Derived.Deep.RegionLaw
import Derived.Deep.AppendLies
namespace Go.Proofs.YtackbjbmadkkhaaDoor
open Go.RowKit
set_option linter.unusedSimpArgs false
set_option linter.unusedVariables false

attribute [local irreducible] C3.rounds C3.state C3.block
/-- append to one's own bytes, as a step of a region that draws -/
theorem step_app_b {ops : Array Oper} {o : Oper} {a : Act} {w : World} {K : Act → World → Prop} {Q : Exit → Act → World → Prop} {E : Prop} (hgd : o.guard = none) (s x : Operand)
    (ho : o.op = .call { callee := .builtin .append, args := #[s, x], argTypes := #[35, 35] })
    (base : Nat) (v : Value) (l : List UInt8) (hs : a.eval s = v) (hown : OwnB w base v l) (ad : Addr) (m c : Nat) (news : List UInt8) (hx : a.eval x = .slice (some ad) m c) (hl : news.length = m) (hm : 0 < m)
    (hnews : ∀ j u, (bv news)[j]? = some u → w.cell? (ad.add j) = some u) (hsz : l.length + m ≤ 1000000000) (hbase : base ≤ w.heap.size)
    (h : ∀ v' w', OwnB w' base v' (l ++ news) → Below base w w' → K (a.put o.dst v') w') :
    if Region.wanted o (yielded ops a.tmps) = true then Oper.wp Tryd.prog o a w K Q else E := by
  obtain ⟨i0, hi, hz0, hz1, hz2⟩ := info_parts info5
  refine step_append_lies w hgd s x 35 ho base 5 i0 (.int .u8 0) 1 1 Tryd.underlying35 hi hz0 hz1 hz2 rfl (by decide) v l.length (bv l) hs hown ad m c (bv news) hx (by simp [bv, hl]) hnews (bv_one news) hm
    (by unfold maxLen; omega) (by omega) hbase w.heap.size rfl ?_
  intro g cap w' h1 h2 _ _
  refine h _ w' ?_ ((Below.refl base w).grown h2 hbase (fun k hk => (hown.lt k hk).1))
  unfold OwnB
  rw [List.length_append, hl]
  have : bv (l ++ news) = bv l ++ bv news := by simp [bv]
  rw [this]
  exact h1
theorem own_step {w : World} {base : Nat} {v : Value} {l : List UInt8} (h : OwnB w base v l) (X : Obj) : OwnB (w.alloc X).drew base v l :=
  OwnB.drew 1 (World.ownsRow.alloc h X)
theorem base_step {w : World} {B : Nat} (h : B ≤ w.heap.size) (X : Obj) : B ≤ (w.alloc X).drew.heap.size := by
  show B ≤ (w.alloc X).heap.size
  simp; omega
theorem news_step (w : World) (T : TypeId) {z x : UInt8} (h : z = x) : ∀ j u, (bv [z])[j]? = some u → ((w.alloc (.cells #[.int .u8 (B8 x)] T)).drew).cell? ((⟨w.heap.size, 0, none⟩ : Addr).add j) = some u := by
  intro j u hj
  subst h
  exact cell_new _ _ _ _ _ hj
theorem pre_room (key : List UInt8) (ctr : UInt32) (nonce text : List UInt8) (k : Nat) (h : k ≤ 100064) : (C3.pre key ctr nonce text k).length + 1 ≤ 1000000000 := by
  rw [C3.length_pre]; omega
def sLenI : Value → Nat
  | .string s => s.size
  | _ => 0
theorem drop_cutI (l : List UInt8) (n : Nat) : (l.drop n).take (l.length - n) = l.drop n := List.take_of_length_le (by rw [List.length_drop]; exact Nat.le_refl _)
theorem xor_here (key : List UInt8) (ctr : UInt32) (nonce text : List UInt8) (k j : Nat) (hm : k % 64 = 0) (hj : j < 64) :
    C3.xorAt key ctr nonce text (k + j) = byteAt (text.drop k) j ^^^ byteAt (C3.block key (ctr + UInt32.ofNat (k / 64)) nonce) j := by
  rw [C3.xorAt_def]
  have e1 : (k + j) / 64 = k / 64 := by omega
  have e2 : (k + j) % 64 = j := by omega
  rw [e1, e2]
  have : C3.byteAt (text.drop k) j = C3.byteAt text (k + j) := by unfold C3.byteAt; simp [List.getD_eq_getElem?_getD, List.getElem?_drop]
  show _ = C3.byteAt (text.drop k) j ^^^ _
  rw [this]
  rfl
set_option maxRecDepth 100000 in
set_option maxHeartbeats 2000000 in
theorem xorref_c (key nonce text : List UInt8) (ctr : UInt32) (hk : key.length = 32) (hn : nonce.length = 12) (htl : text.length ≤ 100000) (w : World) :
    Calls Tryd.prog 23 #[.string ⟨key.toArray⟩, .int .u32 (W32 ctr), .string ⟨nonce.toArray⟩, .string ⟨text.toArray⟩] w fun e w' => e = .returned (.tuple #[.string ⟨(C3.xorText key ctr nonce text).toArray⟩, .int .i64 0]) ∧ Below w.heap.size w w' := by
  have hs := C3.length_state key ctr nonce
  go_enter Tryd.func23, Tryd.ntmps23
  go_wp2_with (first
    | (go_at_call 44; refine (state_ref key nonce ctr hk hn _).mono ?_; rintro e w1 ⟨rfl, hb1⟩)
    | (refine st_row rfl (.tmp 10) (.tmp 22) rfl _ _ rfl rfl 71 _ (heap_alloc_new _ _) rfl hs ?_))
  have hbw : Below w.heap.size w (w1.alloc (.cells (row (C3.state key ctr nonce)) 71)) := hb1.alloc hb1.size _
  have hsz1 : w.heap.size ≤ w1.heap.size + 1 := by have := hb1.size; omega
  clear hb1
  generalize hSq : C3.state key ctr nonce = S at hs hbw ⊢
  clear hSq
  go_loopw [3, 1, 12] (fun t c v wr => ∃ (k : Nat) (r : List UInt8), k ≤ text.length ∧ (k % 64 = 0 ∨ k = text.length) ∧ r = text.drop k ∧ t = .string ⟨r.toArray⟩ ∧ c = .int .u32 (W32 (ctr + UInt32.ofNat ((k + 63) / 64))) ∧ OwnB wr (w1.heap.size + 1) v (C3.pre key ctr nonce text k) ∧ Below (w1.heap.size + 1) (w1.alloc (.cells (row S) 71)) wr) (fun t _ _ _ => sLenI t)
  case atStart => exact ⟨0, text, by omega, .inl rfl, rfl, rfl, by rw [show ctr + UInt32.ofNat ((0 + 63) / 64) = ctr by simp], OwnB.nil _ _, Below.refl _ _⟩
  case round =>
    obtain ⟨k, r, hkl, hkm, hr, rfl, rfl, ho, hb⟩ := hrel
    have hrl : r.length = text.length - k := by rw [hr, List.length_drop]
    by_cases hlt : k < text.length
    · have hm : k % 64 = 0 := by omega
      have hz : w1.heap.size + 1 ≤ wr.heap.size := by have := hb.size; simpa using this
      have e1 : (k + 63) / 64 = k / 64 := by omega
      have hr0 : (0 : Int) < r.length := by omega
      have hxh := fun j hj => xor_here key ctr nonce text k j hm hj
      rw [← hr] at hxh
      rw [e1]
      have hB := C3.length_block key (ctr + UInt32.ofNat (k / 64)) nonce
      have hcall := blockref_c key nonce (ctr + UInt32.ofNat (k / 64)) hk hn
      generalize hBq : C3.block key (ctr + UInt32.ofNat (k / 64)) nonce = blk at hB hcall hxh
      have HC := Lib.hid hcall
      have HX := Lib.hid hxh
      have HR := Lib.hid hr
      have HM := Lib.hid hm
      have HL := Lib.hid hlt
      have HRL := Lib.hid hrl
      clear hBq hcall hxh hr hm hlt e1 hkm hrl
      by_cases h64 : 64 ≤ r.length
      · have hd : min (64 : Int) (r.length : Int) = 64 := by omega
        have h64r : 64 ≤ r.length := by omega
        have h64i : (64 : Int) ≤ r.length := by omega
        have hM64 : 64 ≤ 64 := by omega
        have hM0 : 1 ≤ 64 := by omega
        have HM64 := Lib.hid hM64
        have HMR := Lib.hid h64r
        have HM0 := Lib.hid hM0
        clear h64r hM64 hM0
        go_wp2_with (go_at_call 45; refine (HC.out _).mono ?_; rintro e w4 ⟨rfl, hb4⟩)
        have hz4 : w1.heap.size + 1 ≤ w4.heap.size := by have := hb4.size; omega
        have ho4 := ho.below hb4
        have hb5 := hb.trans (hb4.mono hz)
        clear ho hb hb4 hz hz4
        go_loopw [16, 12] (fun j v w5 => ∃ q : Nat, q ≤ 64 ∧ j = .int .i64 q ∧ OwnB w5 (w1.heap.size + 1) v (C3.pre key ctr nonce text (k + q)) ∧ Below (w1.heap.size + 1) (w1.alloc (.cells (row S) 71)) w5) (fun j _ _ => 64 - (intOf j).toNat)
        case atStart => exact ⟨0, by omega, rfl, ho4, hb5⟩
        case round =>
          clear ho4 hb5
          obtain ⟨q, hqM, rfl, ho, hb⟩ := hrel
          have hz : w1.heap.size + 1 ≤ wr.heap.size := by have := hb.size; simpa using this
          by_cases hlt : q < 64
          · have hlti : (q : Int) < (64 : Int) := by omega
            have h1 : (q : Int) < r.length := by have := HMR.out; omega
            have h2 : (q : Int) < blk.length := by have := HM64.out; omega
            have h3 : (q : Int) < 64 := by have := HM64.out; omega
            have h3' : q < 64 := by have := HM64.out; omega
            have h1' : q < r.length := by have := HMR.out; omega
            have h2' : q < blk.length := by have := HM64.out; omega
            have hl4 := C3.length_pre key ctr nonce text (k + q)
            have hx := HX.out q (by omega)
            have HL4 := Lib.hid hl4
            have HQ := Lib.hid hlt
            have HXX := Lib.hid hx
            clear hl4 hx
            go_wp2
            have hqq : k + q ≤ 100064 := by have := HL.out; have := HM64.out; omega
            go_region_law ((refine step_app_b rfl (.tmp 45) (.tmp 53) rfl (w1.heap.size + 1) _ _ rfl (own_step ho _) ⟨wr.heap.size, 0, none⟩ 1 1 [C3.xorAt key ctr nonce text (k + q)] rfl rfl (by decide) (news_step _ _ HXX.out) (pre_room _ _ _ _ _ hqq) (base_step hz _) ?_; intro v' w' ho' hb'))
            all_goals
              go_wp2
              go_roundw
              case rel => exact ⟨q + 1, HQ.out, by go_num, by rw [← Nat.add_assoc, C3.pre_succ]; exact ho', ((below_drewN 1 (hb.alloc hz _)).trans hb')⟩
              case measure => have := HQ.out; simp [intOf]; omega
          · have he : q = 64 := by omega
            have HE := Lib.hid he
            have hlti : (64 : Int) ≤ (q : Int) := by omega
            have hMR := HMR.out
            clear he
            go_wp2
            go_roundw
            case rel =>
              have hl := HRL.out
              have hM0 := HM0.out
              have hM64 := HM64.out
              have hm := HM.out
              have hL := HL.out
              have hq := HE.out
              have e2 : (k + 64 + 63) / 64 = k / 64 + 1 := by omega
              have e3 : (k + 64) % 64 = 0 ∨ k + 64 = text.length := by omega
              refine ⟨k + 64, _, by omega, e3, ?_, rfl, ?_, ?_, hb⟩
              · rw [drop_cutI, HR.out, List.drop_drop]
              · rw [e2, C3.ctr_succ]
              · rw [← hq]; exact ho
            case measure => have hM0 := HM0.out; show ((r.drop 64).take (r.length - 64)).length < r.length; rw [drop_cutI, List.length_drop]; have := HMR.out; omega
      · have hd : min (64 : Int) (r.length : Int) = r.length := by omega
        have h64r : r.length ≤ r.length := by omega
        have h64i : ((r.length : Nat) : Int) ≤ r.length := by omega
        have hM64 : r.length ≤ 64 := by omega
        have hM0 : 1 ≤ r.length := by omega
        have HM64 := Lib.hid hM64
        have HMR := Lib.hid h64r
        have HM0 := Lib.hid hM0
        clear h64r hM64 hM0
        go_wp2_with (go_at_call 45; refine (HC.out _).mono ?_; rintro e w4 ⟨rfl, hb4⟩)
        have hz4 : w1.heap.size + 1 ≤ w4.heap.size := by have := hb4.size; omega
        have ho4 := ho.below hb4
        have hb5 := hb.trans (hb4.mono hz)
        clear ho hb hb4 hz hz4
        go_loopw [16, 12] (fun j v w5 => ∃ q : Nat, q ≤ r.length ∧ j = .int .i64 q ∧ OwnB w5 (w1.heap.size + 1) v (C3.pre key ctr nonce text (k + q)) ∧ Below (w1.heap.size + 1) (w1.alloc (.cells (row S) 71)) w5) (fun j _ _ => r.length - (intOf j).toNat)
        case atStart => exact ⟨0, by omega, rfl, ho4, hb5⟩
        case round =>
          clear ho4 hb5
          obtain ⟨q, hqM, rfl, ho, hb⟩ := hrel
          have hz : w1.heap.size + 1 ≤ wr.heap.size := by have := hb.size; simpa using this
          by_cases hlt : q < r.length
          · have hlti : (q : Int) < ((r.length : Nat) : Int) := by omega
            have h1 : (q : Int) < r.length := by have := HMR.out; omega
            have h2 : (q : Int) < blk.length := by have := HM64.out; omega
            have h3 : (q : Int) < 64 := by have := HM64.out; omega
            have h3' : q < 64 := by have := HM64.out; omega
            have h1' : q < r.length := by have := HMR.out; omega
            have h2' : q < blk.length := by have := HM64.out; omega
            have hl4 := C3.length_pre key ctr nonce text (k + q)
            have hx := HX.out q (by omega)
            have HL4 := Lib.hid hl4
            have HQ := Lib.hid hlt
            have HXX := Lib.hid hx
            clear hl4 hx
            go_wp2
            have hqq : k + q ≤ 100064 := by have := HL.out; have := HM64.out; omega
            go_region_law ((refine step_app_b rfl (.tmp 45) (.tmp 53) rfl (w1.heap.size + 1) _ _ rfl (own_step ho _) ⟨wr.heap.size, 0, none⟩ 1 1 [C3.xorAt key ctr nonce text (k + q)] rfl rfl (by decide) (news_step _ _ HXX.out) (pre_room _ _ _ _ _ hqq) (base_step hz _) ?_; intro v' w' ho' hb'))
            all_goals
              go_wp2
              go_roundw
              case rel => exact ⟨q + 1, HQ.out, by go_num, by rw [← Nat.add_assoc, C3.pre_succ]; exact ho', ((below_drewN 1 (hb.alloc hz _)).trans hb')⟩
              case measure => have := HQ.out; simp [intOf]; omega
          · have he : q = r.length := by omega
            have HE := Lib.hid he
            have hlti : ((r.length : Nat) : Int) ≤ (q : Int) := by omega
            have hMR := HMR.out
            clear he
            go_wp2
            go_roundw
            case rel =>
              have hl := HRL.out
              have hM0 := HM0.out
              have hM64 := HM64.out
              have hm := HM.out
              have hL := HL.out
              have hq := HE.out
              have e2 : (k + r.length + 63) / 64 = k / 64 + 1 := by omega
              have e3 : (k + r.length) % 64 = 0 ∨ k + r.length = text.length := by omega
              refine ⟨k + r.length, _, by omega, e3, ?_, rfl, ?_, ?_, hb⟩
              · exact (List.drop_eq_nil_of_le (by omega)).symm
              · rw [e2, C3.ctr_succ]
              · rw [← hq]; exact ho
            case measure => have hM0 := HM0.out; show 0 < r.length; omega
    · have he : k = text.length := by omega
      have HE := Lib.hid he
      have hr0 : (r.length : Int) = 0 := by omega
      clear he
      have hcv := conv_own ho
      go_wp2
      go_ret2
      exact ⟨by rw [HE.out]; rfl, hbw.trans (hb.mono hsz1)⟩

set_option maxHeartbeats 1000000 in
theorem xorref_no (key nonce text : List UInt8) (ctr : UInt32) (h : C3.okArgs key nonce = false) (w : World) :
    Calls Tryd.prog 23 #[.string ⟨key.toArray⟩, .int .u32 (W32 ctr), .string ⟨nonce.toArray⟩, .string ⟨text.toArray⟩] w fun e w' => e = .returned (.tuple #[.string ⟨#[]⟩, .int .i64 1]) ∧ Below w.heap.size w w' := by
  go_enter Tryd.func23, Tryd.ntmps23
  go_wp2_with (first
    | (go_at_call 44; refine (state_ref_no key nonce ctr h _).mono ?_; rintro e w1 ⟨rfl, hb1⟩)
    | (refine st_row rfl (.tmp 10) (.tmp 22) rfl _ _ rfl rfl 71 _ (heap_alloc_new _ _) rfl rfl ?_))
  go_ret2
  exact ⟨rfl, hb1.alloc hb1.size _⟩
end Go.Proofs.YtackbjbmadkkhaaDoor
