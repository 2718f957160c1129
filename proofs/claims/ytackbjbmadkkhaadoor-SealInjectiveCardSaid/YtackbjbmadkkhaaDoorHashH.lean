/- The hash of a stream's message. -/
import Derived.Test.YtackbjbmadkkhaaDoorHashG
import Derived.Lib.ConvBytes
namespace Go.Proofs.YtackbjbmadkkhaaDoor
open Go.RowKit
set_option linter.unusedSimpArgs false
set_option linter.unusedVariables false
def brow (l : List UInt8) : Array Value := (bcs l).toArray
def z32 : List UInt8 := List.replicate 32 0
theorem zero_32' : (Tryd.prog.info? 56).map (·.zero) = some (some (.agg (brow z32))) := by kernel_rfl
theorem zero_32 (w : World) : (zeroValue 56).run Tryd.prog w = .ok (.agg (brow z32)) w := by
  have h := zero_32'
  generalize brow z32 = L at h ⊢
  cases hq : Tryd.prog.info? 56 with
  | none => rw [hq] at h; cases h
  | some i =>
    rw [hq] at h
    simp at h
    simp [zeroValue, typeInfo, hq, h]
/-- what lies in memory while the padding is made: the stream, the result's variable -/
structure SW (w : World) (s : HS) (bk : List UInt8) (n : Nat) (wr : World) : Prop where
  b : wr.heap[w.heap.size]? = some (.cells (stc s bk n) 63 (0, 0))
  r : wr.heap[w.heap.size + 1]? = some (.cells (brow z32) 56 (0, 0))
  k : KAt wr
  below : Below w.heap.size w wr
  lb : bk.length = 64
theorem SW.keep {w wr w' : World} {s : HS} {bk : List UInt8} {n : Nat} (h : SW w s bk n wr) {B : Nat} (hB : w.heap.size + 2 ≤ B) (hw : 1 < w.heap.size) (hb : Below B wr w') : SW w s bk n w' :=
  ⟨by rw [hb.block _ (by omega)]; exact h.b, by rw [hb.block _ (by omega)]; exact h.r, by unfold KAt; rw [hb.block _ (by omega)]; exact h.k, h.below.trans (hb.mono (by omega)), h.lb⟩
def sliceLen : Value → Nat
  | .slice _ n _ => n
  | _ => 0
theorem RdE.form1 {α : Type} {E : El α} {w : World} {v : Value} {l : List α} (h : RdE E w v l) {n : Nat} (hn : l.length = n) : ∃ a cap, v = .slice a n cap := by
  obtain ⟨a, cap, rfl, _⟩ := h
  exact ⟨a, cap, by rw [hn]⟩
theorem zpad_lt (n : Nat) : zpad n < 64 := Nat.mod_lt _ (by decide)
theorem zpad_at (n j : Nat) (hj : j ≤ zpad n) : (n + (1 + j)) % 64 = 56 ↔ j = zpad n := by
  unfold zpad at *
  omega
theorem own_b1 {w : World} {base : Nat} (c : UInt8) (hb : base ≤ w.heap.size) : OwnE eB (w.alloc (.cells #[.int .u8 (B8 c)] 5)) base (.slice (some ⟨w.heap.size, 0, none⟩) 1 1) [c] :=
  ⟨by simp [El.flat], .inr ⟨w.heap.size, 1, #[.int .u8 (B8 c)], rfl, hb, heap_alloc_new _ _, Nat.le_refl _, by unfold maxLen; omega, by simp, by simp [El.flat]⟩⟩
theorem b8_of (m : Nat) : B8 (UInt8.ofNat m) = (m : Int) % 256 := by
  unfold B8
  rw [UInt8.toNat_ofNat']
  omega
theorem conv_e {w : World} {v : Value} {l : List UInt8} (h : RdE eB w v l) : (convert 35 9 v).run Tryd.prog w = .ok (.string ⟨l.toArray⟩) w := by
  obtain ⟨a, cap, rfl, h1, h2, h3⟩ := h
  cases a with
  | none =>
    have hl : l = [] := by
      cases l with
      | nil => rfl
      | cons x l =>
        obtain ⟨b, off, e, _⟩ := h3 (by simp)
        cases e
    subst hl
    exact run_convert_bytes_nil w _ _ Tryd.underlying35 Tryd.underlying5 _ _ _ Tryd.underlying9
  | some p =>
    refine run_convert_bytes_back w _ _ _ p cap l Tryd.underlying35 Tryd.underlying5 Tryd.underlying9 (fun j hj => ?_)
    obtain ⟨b, off, e, _, hc⟩ := h3 (by omega)
    cases e
    have hadd : (⟨b, off, none⟩ : Addr).add j = ⟨b, off + j, none⟩ := by unfold Addr.add; split <;> simp_all
    rw [hadd, hc j _ (eB_flat l j hj)]
    simp [byteAt, List.getD_eq_getElem?_getD, hj, B8]
theorem B8_mod (c : UInt8) : B8 c % 256 = B8 c := by
  unfold B8
  have := c.toNat_lt
  omega
/-- the result behind i bytes -/
def outr (s : HS) (i : Nat) : List UInt8 := (hbytes s).take i ++ List.replicate (32 - i) 0
theorem hbytes_len (s : HS) : (hbytes s).length = 32 := rfl
theorem outr_len (s : HS) (i : Nat) (hi : i ≤ 32) : (outr s i).length = 32 := by
  unfold outr
  rw [List.length_append, List.length_take, hbytes_len, List.length_replicate]
  omega
theorem outr_all (s : HS) : outr s 32 = hbytes s := by
  unfold outr
  rw [List.take_of_length_le (Nat.le_of_eq (hbytes_len s)), Nat.sub_self, List.replicate_zero, List.append_nil]
theorem brow_set (s : HS) (i : Nat) (hi : i < 32) (c : UInt8) (hc : (hbytes s)[i]? = some c) : (brow (outr s i)).setIfInBounds i (.int .u8 (B8 c)) = brow (outr s (i + 1)) := by
  unfold brow
  apply Array.ext'
  rw [Array.toList_setIfInBounds]
  show (bcs (outr s i)).set i (.int .u8 (B8 c)) = bcs (outr s (i + 1))
  unfold bcs
  rw [← List.map_set (f := fun x => Value.int .u8 (B8 x))]
  congr 1
  unfold outr
  have hl : ((hbytes s).take i).length = i := by rw [List.length_take, hbytes_len]; omega
  rw [List.set_append_right _ _ (by omega), hl, Nat.sub_self, show 32 - i = (32 - (i + 1)) + 1 by omega, List.replicate_succ, List.set_cons_zero, List.take_add_one, hc]
  simp
theorem hb_at (s : HS) (q r : Nat) (hq : q < 8) (hr : r < 4) : (hbytes s)[4 * q + r]? = (w4 (w16 (hs s) q))[r]? := by
  rcases (by omega : q = 0 ∨ q = 1 ∨ q = 2 ∨ q = 3 ∨ q = 4 ∨ q = 5 ∨ q = 6 ∨ q = 7) with rfl | rfl | rfl | rfl | rfl | rfl | rfl | rfl <;>
    (rcases (by omega : r = 0 ∨ r = 1 ∨ r = 2 ∨ r = 3) with rfl | rfl | rfl | rfl <;> rfl)
theorem brow_at (l : List UInt8) (i : Nat) (hi : i < l.length) : (brow l)[i]? = some (.int .u8 (B8 (byteAt l i))) := by
  simp [brow, bcs, byteAt, hi]
theorem brow_size (l : List UInt8) : (brow l).size = l.length := by simp [brow, bcs]
theorem brow_one (l : List UInt8) : ((brow l).all fun u => u.oneCell') = true := by
  rw [Array.all_eq_true_iff_forall_mem]
  intro x hx
  simp only [brow, bcs, List.mem_toArray, List.mem_map] at hx
  obtain ⟨y, _, rfl⟩ := hx
  rfl
theorem info32 : (Tryd.prog.info? 56).map (·.size) = some 32 := by kernel_rfl
theorem size32 (l : List UInt8) (h : l.length = 32) : (Tryd.prog.info? 56).map (·.size) = some (brow l).size := by rw [brow_size, h]; exact info32
/-- what lies in memory while the result is written -/
structure TW (w : World) (s : HS) (bk : List UInt8) (n g i : Nat) (wr : World) : Prop where
  b : wr.heap[w.heap.size]? = some (.cells (stc s bk n) 63 (0, 0))
  r : wr.heap[w.heap.size + 1]? = some (.cells (brow z32) 56 (0, 0))
  o : wr.heap[g]? = some (.cells (brow (outr s i)) 56 (0, 0))
  hg : w.heap.size + 1 < g
  below : Below w.heap.size w wr
  lb : bk.length = 64
theorem tw_start {w w1 wd : World} {s0 s1 : HS} {bk0 bk1 : List UInt8} {n n1 : Nat} (h : SW w s0 bk0 n w1) (hl : bk1.length = 64) (hg : wd.heap[w.heap.size]? = some (.cells (stc s1 bk1 n1) 63 (0, 0))) (ho : ∀ k, k ≠ w.heap.size → wd.heap[k]? = w1.heap[k]?) (hb : Below w.heap.size w1 wd) :
    TW w s1 bk1 n1 wd.heap.size 0 (wd.alloc (.cells (brow z32) 56)) := by
  have hr : wd.heap[w.heap.size + 1]? = some (.cells (brow z32) 56 (0, 0)) := by rw [ho _ (by omega)]; exact h.r
  have h1 := (Array.getElem?_eq_some_iff.1 hr).1
  exact ⟨by rw [heap_past _ _ _ (by omega)]; exact hg, by rw [heap_past _ _ _ h1]; exact hr, heap_last _ _ _ rfl, h1, (h.below.trans hb).alloc (by omega) _, hl⟩
theorem TW.next {w wr : World} {s : HS} {bk : List UInt8} {n g i : Nat} (h : TW w s bk n g i wr) (hi : i < 32) (c : UInt8) (hc : (hbytes s)[i]? = some c) : TW w s bk n g (i + 1) (wr.setCell ⟨g, i, none⟩ (.int .u8 (B8 c))) := by
  have h1 := h.hg
  rw [setCell_rowC _ _ _ _ _ _ _ h.o, brow_set s i hi c hc]
  exact ⟨by rw [setRow_else _ _ _ _ (by omega)]; exact h.b, by rw [setRow_else _ _ _ _ (by omega)]; exact h.r, setRow_heap _ _ _ _ _ _ h.o, h.hg, h.below.trans (below_row (by omega)), h.lb⟩
attribute [local irreducible] Calls stc blks cmpr row brow
set_option maxRecDepth 100000 in
set_option maxHeartbeats 4000000 in
theorem sum_c (M : List UInt8) (v : Value) (w : World) (hv : StV M v) (hk : KAt w) (hlen : M.length ≤ 100000000000) :
    Calls Tryd.prog 35 #[v] w fun e w' => e = .returned (.agg (brow (sha M))) ∧ Below w.heap.size w w' := by
  have HSV := Lib.hid hv
  obtain ⟨bk0, rfl, hb0, ht0, -⟩ := hv
  have hz := zero_32
  have hw1 : 1 < w.heap.size := hk.lt
  have HW1 := Lib.hid hw1
  have HLEN := Lib.hid hlen
  have H0 : Hid (SW w (blks M (M.length / 64)) bk0 M.length ((w.alloc (.cells (stc (blks M (M.length / 64)) bk0 M.length) 63)).alloc (.cells (brow z32) 56))) := Lib.hid
    ⟨by rw [heap_past _ _ _ (by simp), heap_last _ _ _ rfl], heap_last _ _ _ (by simp), by unfold KAt; rw [heap_past _ _ _ (by simp; omega), heap_past _ _ _ hw1]; exact hk, ((Below.refl _ _).alloc (Nat.le_refl _) _).alloc (by simp) _, hb0⟩
  have hmul : (8 : Int) * (M.length : Int) % 18446744073709551616 = ((8 * M.length : Nat) : Int) := by omega
  have c72 : ((w.alloc (.cells (stc (blks M (M.length / 64)) bk0 M.length) 63)).alloc (.cells (brow z32) 56)).cell? ⟨w.heap.size, 72, none⟩ = some (.int .u64 M.length) := by rw [cell_of_row _ _ _ _ _ _ H0.out.b, stc_n _ _ _ hb0]
  clear hk ht0 hb0
  generalize hs0 : blks M (M.length / 64) = s0 at H0 c72 ⊢
  go_enter Tryd.func35, Tryd.ntmps35
  go_wp2
  go_loopw [4] (fun o wr => ∃ j : Nat, j ≤ zpad M.length ∧ (∃ a cap, o = .slice a (1 + j) cap) ∧ Hid (OwnE eB wr (w.heap.size + 2) o ([128] ++ List.replicate j 0)) ∧ Hid (SW w s0 bk0 M.length wr)) (fun o _ => 70 - sliceLen o)
  case atStart =>
    refine ⟨0, Nat.zero_le _, ⟨_, _, rfl⟩, Lib.hid ?_, Lib.hid (H0.out.keep (by simp) HW1.out ((Below.refl _ _).alloc (Nat.le_refl _) _))⟩
    have h := own_b1 (w := (w.alloc (.cells (stc s0 bk0 M.length) 63)).alloc (.cells (brow z32) 56)) (base := w.heap.size + 2) 128 (by simp)
    rw [show B8 128 = 128 from rfl] at h
    simpa using h
  case round =>
    obtain ⟨j, hj, ⟨a, cap, rfl⟩, hown, hsw⟩ := hrel
    have cn : wr.cell? ⟨w.heap.size, 72, none⟩ = some (.int .u64 M.length) := by rw [cell_of_row _ _ _ _ _ _ hsw.out.b, stc_n _ _ _ hsw.out.lb]
    have hzl := zpad_lt M.length
    have hz1 := zpad_at M.length j hj
    have HZ1 := Lib.hid hz1
    have HBS := Lib.hid hsw.out.below.size
    have hw2 : w.heap.size + 2 ≤ wr.heap.size := by have := (Array.getElem?_eq_some_iff.1 hsw.out.r).1; omega
    have HW2 := Lib.hid hw2
    have jb : j ≤ 63 := by omega
    have jb2 : (j : Int) ≤ 63 := by omega
    have mb : (M.length : Int) ≤ 100000000000 := by omega
    by_cases hq : j = zpad M.length
    · have tq : ((M.length : Int) + (1 + (j : Int))) % 64 = 56 := by have := hz1.2 hq; omega
      have tq2 : (((M.length : Int) + (1 + (j : Int))) % 64 != 56) = false := by rw [tq]; rfl
      have HQ := Lib.hid hq
      clear hz1 tq hj hq
      go_wp2
      have hown1 : Hid (OwnE eB wr (w.heap.size + 2) (.slice a (1 + j) cap) ([128] ++ List.replicate (zpad M.length) 0)) := Lib.hid (by rw [← HQ.out]; exact hown.out)
      have HP0 : Hid (([128] ++ List.replicate (zpad M.length) 0 : List UInt8).length ≤ 64) := Lib.hid (by have := zpad_lt M.length; simp; omega)
      have HPL : Hid (([128] ++ List.replicate (zpad M.length) 0 : List UInt8).length = 1 + j) := Lib.hid (by have := HQ.out; simp; omega)
      generalize hP0' : ([128] ++ List.replicate (zpad M.length) 0 : List UInt8) = P0 at hown1 HP0 HPL
      have hP0 := Lib.hid hP0'
      clear hP0'
      have hn0 : 0 ≤ 8 * (M.length : Int) := by omega
      have hn1 : 8 * (M.length : Int) < 18446744073709551616 := by omega
      clear mb hlen hmul
      generalize hNI : 8 * (M.length : Int) = NI at hn0 hn1 ⊢
      have HNI : Hid (NI = 8 * (M.length : Int)) := Lib.hid hNI.symm
      clear hNI
      go_loopw [23, 4] (fun o u wr => ∃ i : Nat, i ≤ 8 ∧ o = .int .i64 i ∧ (∃ a cap, u = .slice a (1 + j + i) cap) ∧ Hid (OwnE eB wr (w.heap.size + 2) u (P0 ++ (be8 (8 * M.length)).take i)) ∧ Hid (SW w s0 bk0 M.length wr)) (fun o _ _ => 8 - (intOf o).toNat)
      case atStart => exact ⟨0, by omega, rfl, ⟨_, _, rfl⟩, by simpa using hown1, hsw⟩
      case round =>
        obtain ⟨i, hi, rfl, ⟨a2, cap2, rfl⟩, hown2, hsw2⟩ := hrel
        have HW3 : Hid (w.heap.size + 2 ≤ wr.heap.size) := Lib.hid (by have := (Array.getElem?_eq_some_iff.1 hsw2.out.r).1; omega)
        rcases (by omega : i = 0 ∨ i = 1 ∨ i = 2 ∨ i = 3 ∨ i = 4 ∨ i = 5 ∨ i = 6 ∨ i = 7 ∨ i = 8) with rfl | rfl | rfl | rfl | rfl | rfl | rfl | rfl | rfl
        --BE
        · have et : (be8 (8 * M.length)).take (0 + 1) = (be8 (8 * M.length)).take 0 ++ [UInt8.ofNat (8 * M.length / 2 ^ 56)] := rfl
          have ev : NI / 72057594037927936 % 256 = B8 (UInt8.ofNat (8 * M.length / 2 ^ 56)) := by rw [b8_of, HNI.out]; omega
          have ev0 : NI / 72057594037927936 = B8 (UInt8.ofNat (8 * M.length / 2 ^ 56)) := by rw [← ev]; omega
          generalize hc : UInt8.ofNat (8 * M.length / 2 ^ 56) = c at et ev ev0
          have em : B8 c % 256 = B8 c := B8_mod c
          have ET := Lib.hid et
          clear et hc
          go_wp2_with (at_builtin; go_loud (refine app_e eB_ok rfl (.tmp 26) (.tmp 33) rfl (w.heap.size + 2) _ _ rfl (hown2.out.on ((Below.refl _ _).alloc (Nat.le_refl _) _)) (.slice (some ⟨wr.heap.size, 0, none⟩) 1 1) [c] rfl (one_e wr c eB_ok) (by have := HP0.out; simp; omega) (by have := HW3.out; simp; omega) ?_); intro v5 w4 ho4 hg4 hloc; have HB4 := Lib.hid (((Below.refl wr.heap.size wr).alloc (Nat.le_refl _) (.cells #[.int .u8 (B8 c)] 5)).mono HW3.out |>.trans ((hown2.out.on ((Below.refl _ _).alloc (Nat.le_refl _) _)).below hg4 (by have := HW3.out; simp; omega))); have HO4 := Lib.hid ho4; clear ho4 hg4 hloc)
          go_roundw
          case rel => exact ⟨1, by decide, by go_num, HO4.out.rd.form1 (by have := HP0.out; have := HPL.out; simp [be8]; omega), Lib.hid (by have h := HO4.out; rw [List.append_assoc, ← ET.out] at h; exact h), Lib.hid (hsw2.out.keep (Nat.le_refl _) HW1.out HB4.out)⟩
          case measure => simp [intOf]
        · have et : (be8 (8 * M.length)).take (1 + 1) = (be8 (8 * M.length)).take 1 ++ [UInt8.ofNat (8 * M.length / 2 ^ 48)] := rfl
          have ev : NI / 281474976710656 % 256 = B8 (UInt8.ofNat (8 * M.length / 2 ^ 48)) := by rw [b8_of, HNI.out]; omega
          skip
          generalize hc : UInt8.ofNat (8 * M.length / 2 ^ 48) = c at et ev 
          have em : B8 c % 256 = B8 c := B8_mod c
          have ET := Lib.hid et
          clear et hc
          go_wp2_with (at_builtin; go_loud (refine app_e eB_ok rfl (.tmp 26) (.tmp 33) rfl (w.heap.size + 2) _ _ rfl (hown2.out.on ((Below.refl _ _).alloc (Nat.le_refl _) _)) (.slice (some ⟨wr.heap.size, 0, none⟩) 1 1) [c] rfl (one_e wr c eB_ok) (by have := HP0.out; simp; omega) (by have := HW3.out; simp; omega) ?_); intro v5 w4 ho4 hg4 hloc; have HB4 := Lib.hid (((Below.refl wr.heap.size wr).alloc (Nat.le_refl _) (.cells #[.int .u8 (B8 c)] 5)).mono HW3.out |>.trans ((hown2.out.on ((Below.refl _ _).alloc (Nat.le_refl _) _)).below hg4 (by have := HW3.out; simp; omega))); have HO4 := Lib.hid ho4; clear ho4 hg4 hloc)
          go_roundw
          case rel => exact ⟨2, by decide, by go_num, HO4.out.rd.form1 (by have := HP0.out; have := HPL.out; simp [be8]; omega), Lib.hid (by have h := HO4.out; rw [List.append_assoc, ← ET.out] at h; exact h), Lib.hid (hsw2.out.keep (Nat.le_refl _) HW1.out HB4.out)⟩
          case measure => simp [intOf]
        · have et : (be8 (8 * M.length)).take (2 + 1) = (be8 (8 * M.length)).take 2 ++ [UInt8.ofNat (8 * M.length / 2 ^ 40)] := rfl
          have ev : NI / 1099511627776 % 256 = B8 (UInt8.ofNat (8 * M.length / 2 ^ 40)) := by rw [b8_of, HNI.out]; omega
          skip
          generalize hc : UInt8.ofNat (8 * M.length / 2 ^ 40) = c at et ev 
          have em : B8 c % 256 = B8 c := B8_mod c
          have ET := Lib.hid et
          clear et hc
          go_wp2_with (at_builtin; go_loud (refine app_e eB_ok rfl (.tmp 26) (.tmp 33) rfl (w.heap.size + 2) _ _ rfl (hown2.out.on ((Below.refl _ _).alloc (Nat.le_refl _) _)) (.slice (some ⟨wr.heap.size, 0, none⟩) 1 1) [c] rfl (one_e wr c eB_ok) (by have := HP0.out; simp; omega) (by have := HW3.out; simp; omega) ?_); intro v5 w4 ho4 hg4 hloc; have HB4 := Lib.hid (((Below.refl wr.heap.size wr).alloc (Nat.le_refl _) (.cells #[.int .u8 (B8 c)] 5)).mono HW3.out |>.trans ((hown2.out.on ((Below.refl _ _).alloc (Nat.le_refl _) _)).below hg4 (by have := HW3.out; simp; omega))); have HO4 := Lib.hid ho4; clear ho4 hg4 hloc)
          go_roundw
          case rel => exact ⟨3, by decide, by go_num, HO4.out.rd.form1 (by have := HP0.out; have := HPL.out; simp [be8]; omega), Lib.hid (by have h := HO4.out; rw [List.append_assoc, ← ET.out] at h; exact h), Lib.hid (hsw2.out.keep (Nat.le_refl _) HW1.out HB4.out)⟩
          case measure => simp [intOf]
        · have et : (be8 (8 * M.length)).take (3 + 1) = (be8 (8 * M.length)).take 3 ++ [UInt8.ofNat (8 * M.length / 2 ^ 32)] := rfl
          have ev : NI / 4294967296 % 256 = B8 (UInt8.ofNat (8 * M.length / 2 ^ 32)) := by rw [b8_of, HNI.out]; omega
          skip
          generalize hc : UInt8.ofNat (8 * M.length / 2 ^ 32) = c at et ev 
          have em : B8 c % 256 = B8 c := B8_mod c
          have ET := Lib.hid et
          clear et hc
          go_wp2_with (at_builtin; go_loud (refine app_e eB_ok rfl (.tmp 26) (.tmp 33) rfl (w.heap.size + 2) _ _ rfl (hown2.out.on ((Below.refl _ _).alloc (Nat.le_refl _) _)) (.slice (some ⟨wr.heap.size, 0, none⟩) 1 1) [c] rfl (one_e wr c eB_ok) (by have := HP0.out; simp; omega) (by have := HW3.out; simp; omega) ?_); intro v5 w4 ho4 hg4 hloc; have HB4 := Lib.hid (((Below.refl wr.heap.size wr).alloc (Nat.le_refl _) (.cells #[.int .u8 (B8 c)] 5)).mono HW3.out |>.trans ((hown2.out.on ((Below.refl _ _).alloc (Nat.le_refl _) _)).below hg4 (by have := HW3.out; simp; omega))); have HO4 := Lib.hid ho4; clear ho4 hg4 hloc)
          go_roundw
          case rel => exact ⟨4, by decide, by go_num, HO4.out.rd.form1 (by have := HP0.out; have := HPL.out; simp [be8]; omega), Lib.hid (by have h := HO4.out; rw [List.append_assoc, ← ET.out] at h; exact h), Lib.hid (hsw2.out.keep (Nat.le_refl _) HW1.out HB4.out)⟩
          case measure => simp [intOf]
        · have et : (be8 (8 * M.length)).take (4 + 1) = (be8 (8 * M.length)).take 4 ++ [UInt8.ofNat (8 * M.length / 2 ^ 24)] := rfl
          have ev : NI / 16777216 % 256 = B8 (UInt8.ofNat (8 * M.length / 2 ^ 24)) := by rw [b8_of, HNI.out]; omega
          skip
          generalize hc : UInt8.ofNat (8 * M.length / 2 ^ 24) = c at et ev 
          have em : B8 c % 256 = B8 c := B8_mod c
          have ET := Lib.hid et
          clear et hc
          go_wp2_with (at_builtin; go_loud (refine app_e eB_ok rfl (.tmp 26) (.tmp 33) rfl (w.heap.size + 2) _ _ rfl (hown2.out.on ((Below.refl _ _).alloc (Nat.le_refl _) _)) (.slice (some ⟨wr.heap.size, 0, none⟩) 1 1) [c] rfl (one_e wr c eB_ok) (by have := HP0.out; simp; omega) (by have := HW3.out; simp; omega) ?_); intro v5 w4 ho4 hg4 hloc; have HB4 := Lib.hid (((Below.refl wr.heap.size wr).alloc (Nat.le_refl _) (.cells #[.int .u8 (B8 c)] 5)).mono HW3.out |>.trans ((hown2.out.on ((Below.refl _ _).alloc (Nat.le_refl _) _)).below hg4 (by have := HW3.out; simp; omega))); have HO4 := Lib.hid ho4; clear ho4 hg4 hloc)
          go_roundw
          case rel => exact ⟨5, by decide, by go_num, HO4.out.rd.form1 (by have := HP0.out; have := HPL.out; simp [be8]; omega), Lib.hid (by have h := HO4.out; rw [List.append_assoc, ← ET.out] at h; exact h), Lib.hid (hsw2.out.keep (Nat.le_refl _) HW1.out HB4.out)⟩
          case measure => simp [intOf]
        · have et : (be8 (8 * M.length)).take (5 + 1) = (be8 (8 * M.length)).take 5 ++ [UInt8.ofNat (8 * M.length / 2 ^ 16)] := rfl
          have ev : NI / 65536 % 256 = B8 (UInt8.ofNat (8 * M.length / 2 ^ 16)) := by rw [b8_of, HNI.out]; omega
          skip
          generalize hc : UInt8.ofNat (8 * M.length / 2 ^ 16) = c at et ev 
          have em : B8 c % 256 = B8 c := B8_mod c
          have ET := Lib.hid et
          clear et hc
          go_wp2_with (at_builtin; go_loud (refine app_e eB_ok rfl (.tmp 26) (.tmp 33) rfl (w.heap.size + 2) _ _ rfl (hown2.out.on ((Below.refl _ _).alloc (Nat.le_refl _) _)) (.slice (some ⟨wr.heap.size, 0, none⟩) 1 1) [c] rfl (one_e wr c eB_ok) (by have := HP0.out; simp; omega) (by have := HW3.out; simp; omega) ?_); intro v5 w4 ho4 hg4 hloc; have HB4 := Lib.hid (((Below.refl wr.heap.size wr).alloc (Nat.le_refl _) (.cells #[.int .u8 (B8 c)] 5)).mono HW3.out |>.trans ((hown2.out.on ((Below.refl _ _).alloc (Nat.le_refl _) _)).below hg4 (by have := HW3.out; simp; omega))); have HO4 := Lib.hid ho4; clear ho4 hg4 hloc)
          go_roundw
          case rel => exact ⟨6, by decide, by go_num, HO4.out.rd.form1 (by have := HP0.out; have := HPL.out; simp [be8]; omega), Lib.hid (by have h := HO4.out; rw [List.append_assoc, ← ET.out] at h; exact h), Lib.hid (hsw2.out.keep (Nat.le_refl _) HW1.out HB4.out)⟩
          case measure => simp [intOf]
        · have et : (be8 (8 * M.length)).take (6 + 1) = (be8 (8 * M.length)).take 6 ++ [UInt8.ofNat (8 * M.length / 2 ^ 8)] := rfl
          have ev : NI / 256 % 256 = B8 (UInt8.ofNat (8 * M.length / 2 ^ 8)) := by rw [b8_of, HNI.out]; omega
          skip
          generalize hc : UInt8.ofNat (8 * M.length / 2 ^ 8) = c at et ev 
          have em : B8 c % 256 = B8 c := B8_mod c
          have ET := Lib.hid et
          clear et hc
          go_wp2_with (at_builtin; go_loud (refine app_e eB_ok rfl (.tmp 26) (.tmp 33) rfl (w.heap.size + 2) _ _ rfl (hown2.out.on ((Below.refl _ _).alloc (Nat.le_refl _) _)) (.slice (some ⟨wr.heap.size, 0, none⟩) 1 1) [c] rfl (one_e wr c eB_ok) (by have := HP0.out; simp; omega) (by have := HW3.out; simp; omega) ?_); intro v5 w4 ho4 hg4 hloc; have HB4 := Lib.hid (((Below.refl wr.heap.size wr).alloc (Nat.le_refl _) (.cells #[.int .u8 (B8 c)] 5)).mono HW3.out |>.trans ((hown2.out.on ((Below.refl _ _).alloc (Nat.le_refl _) _)).below hg4 (by have := HW3.out; simp; omega))); have HO4 := Lib.hid ho4; clear ho4 hg4 hloc)
          go_roundw
          case rel => exact ⟨7, by decide, by go_num, HO4.out.rd.form1 (by have := HP0.out; have := HPL.out; simp [be8]; omega), Lib.hid (by have h := HO4.out; rw [List.append_assoc, ← ET.out] at h; exact h), Lib.hid (hsw2.out.keep (Nat.le_refl _) HW1.out HB4.out)⟩
          case measure => simp [intOf]
        · have et : (be8 (8 * M.length)).take (7 + 1) = (be8 (8 * M.length)).take 7 ++ [UInt8.ofNat (8 * M.length / 2 ^ 0)] := rfl
          have ev : NI % 256 = B8 (UInt8.ofNat (8 * M.length / 2 ^ 0)) := by rw [b8_of, HNI.out]; omega
          skip
          generalize hc : UInt8.ofNat (8 * M.length / 2 ^ 0) = c at et ev 
          have em : B8 c % 256 = B8 c := B8_mod c
          have ET := Lib.hid et
          clear et hc
          go_wp2_with (at_builtin; go_loud (refine app_e eB_ok rfl (.tmp 26) (.tmp 33) rfl (w.heap.size + 2) _ _ rfl (hown2.out.on ((Below.refl _ _).alloc (Nat.le_refl _) _)) (.slice (some ⟨wr.heap.size, 0, none⟩) 1 1) [c] rfl (one_e wr c eB_ok) (by have := HP0.out; simp; omega) (by have := HW3.out; simp; omega) ?_); intro v5 w4 ho4 hg4 hloc; have HB4 := Lib.hid (((Below.refl wr.heap.size wr).alloc (Nat.le_refl _) (.cells #[.int .u8 (B8 c)] 5)).mono HW3.out |>.trans ((hown2.out.on ((Below.refl _ _).alloc (Nat.le_refl _) _)).below hg4 (by have := HW3.out; simp; omega))); have HO4 := Lib.hid ho4; clear ho4 hg4 hloc)
          go_roundw
          case rel => exact ⟨8, by decide, by go_num, HO4.out.rd.form1 (by have := HP0.out; have := HPL.out; simp [be8]; omega), Lib.hid (by have h := HO4.out; rw [List.append_assoc, ← ET.out] at h; exact h), Lib.hid (hsw2.out.keep (Nat.le_refl _) HW1.out HB4.out)⟩
          case measure => simp [intOf]
        --ENDBE
        · have hcv := conv_e hown2.out.rd
          have HSV2 : Hid (StV M (.agg (stc s0 bk0 M.length))) := Lib.hid (by have h := HSV.out; rw [hs0] at h; exact h)
          have hPD : M ++ (P0 ++ (be8 (8 * M.length)).take 8) = padd M := by rw [← hP0.out, List.append_assoc]; rfl
          have hPL2 : M.length + (P0 ++ (be8 (8 * M.length)).take 8).length ≤ 1000000000000 := by
            have h1 := HP0.out
            have h2 := HLEN.out
            have h3 : ((be8 (8 * M.length)).take 8).length = 8 := rfl
            rw [List.length_append, h3]
            omega
          have HPL2 := Lib.hid hPL2
          have HPD := Lib.hid hPD
          clear hPD hPL2 HNI hn0 hn1
          generalize P0 ++ (be8 (8 * M.length)).take 8 = PD at hcv HPL2 HPD hown2
          go_wp2_with (first
            | (refine wpList_load_row rfl 63 (.tmp 1) rfl w.heap.size rfl _ _ (0, 0) _ hsw2.out.b Tryd.underlying63 rfl (size73 _ _ _ hsw2.out.lb) ?_)
            | (go_at_call 34; refine (add_c M PD _ _ HSV2.out hsw2.out.k HPL2.out).mono ?_; rintro e w1 ⟨v1, rfl, ⟨bk1, rfl, hbl, -⟩, hb1⟩; rw [HPD.out]; have HBL := Lib.hid hbl; have SW1 := Lib.hid (hsw2.out.keep HW3.out HW1.out hb1); clear hbl hb1; generalize hs1 : blks (padd M) ((padd M).length / 64) = s1; generalize hn1 : (padd M).length = n1)
            | (refine st_T (T := 63) (stc s1 bk1 n1) (size73 _ _ _ HBL.out) rfl (.tmp 1) (.tmp 39) rfl w.heap.size (stc s0 bk0 M.length) rfl rfl (stc_one _ _ _) (by rw [stc_size _ _ _ HBL.out, stc_size _ _ _ SW1.out.lb]) SW1.out.b ?_; intro wd hgd hod hbd; have HT : Hid (TW w s1 bk1 n1 wd.heap.size 0 (wd.alloc (.cells (brow z32) 56))) := (Lib.hid (tw_start SW1.out HBL.out hgd hod (hbd _ (Nat.le_refl _)))); clear hgd hod hbd))
          have HS1 : Hid (sha M = hbytes s1) := Lib.hid (by rw [← hs1]; rfl)
          clear hs1 hn1 hcv
          go_loopw [40] (fun o wr => ∃ i : Nat, i ≤ 32 ∧ o = .int .i64 i ∧ Hid (TW w s1 bk1 n1 wd.heap.size i wr)) (fun o _ => 32 - (intOf o).toNat)
          case atStart => exact ⟨0, by omega, rfl, HT⟩
          case round =>
            obtain ⟨i, hi, rfl, htw⟩ := hrel
            by_cases h32 : i < 32
            · obtain ⟨q, r, hqr, hq8, hr4⟩ : ∃ q r, i = 4 * q + r ∧ q < 8 ∧ r < 4 := ⟨i / 4, i % 4, by omega, by omega, by omega⟩
              have hcx : wr.cell? ⟨w.heap.size, q, none⟩ = some (.int .u32 (W32 (w16 (hs s1) q))) := by rw [cell_of_row _ _ _ _ _ _ htw.out.b, stc_s _ _ _ _ hq8]
              have hfz := frozen_of_row _ _ i _ _ htw.out.o
              have hq : (i : Int) / 4 = (q : Int) := by omega
              have hbx : (hbytes s1)[i]? = (w4 (w16 (hs s1) q))[r]? := by rw [hqr]; exact hb_at s1 q r hq8 hr4
              have hL : i < 32 := h32
              have hcell : wr.cell? ⟨wd.heap.size, i, none⟩ = some (.int .u8 (B8 (byteAt (outr s1 i) i))) := by
                rw [cell_of_row _ _ _ _ _ _ htw.out.o]
                exact brow_at _ _ (by rw [outr_len _ _ hi]; exact h32)
              have hr : (i : Int) % 4 = (r : Int) := by omega
              generalize w16 (hs s1) q = x at hcx hbx
              have HQR := Lib.hid hqr
              clear hqr
              rcases (by omega : r = 0 ∨ r = 1 ∨ r = 2 ∨ r = 3) with rfl | rfl | rfl | rfl
              · have HX : Hid ((hbytes s1)[i]? = some (shr x 24).toUInt8) := Lib.hid hbx
                clear hbx
                go_wp2
                go_roundw
                case rel => exact ⟨i + 1, h32, by go_num, Lib.hid (htw.out.next h32 _ HX.out)⟩
                case measure => simp [intOf]; omega
              · have HX : Hid ((hbytes s1)[i]? = some (shr x 16).toUInt8) := Lib.hid hbx
                clear hbx
                go_wp2
                go_roundw
                case rel => exact ⟨i + 1, h32, by go_num, Lib.hid (htw.out.next h32 _ HX.out)⟩
                case measure => simp [intOf]; omega
              · have HX : Hid ((hbytes s1)[i]? = some (shr x 8).toUInt8) := Lib.hid hbx
                clear hbx
                go_wp2
                go_roundw
                case rel => exact ⟨i + 1, h32, by go_num, Lib.hid (htw.out.next h32 _ HX.out)⟩
                case measure => simp [intOf]; omega
              · have HX : Hid ((hbytes s1)[i]? = some x.toUInt8) := Lib.hid hbx
                clear hbx
                go_wp2
                go_roundw
                case rel => exact ⟨i + 1, h32, by go_num, Lib.hid (htw.out.next h32 _ HX.out)⟩
                case measure => simp [intOf]; omega
            · have h32' : i = 32 := by omega
              subst h32'
              have HLX : (outr s1 32).length = 32 := outr_len _ _ (Nat.le_refl _)
              clear h32 hi
              go_wp2_with (first
                | (refine wpList_load_row rfl 56 (.tmp 6) rfl wd.heap.size rfl _ _ (0, 0) _ htw.out.o Tryd.underlying56 rfl (size32 _ HLX) ?_)
                | (refine st_T (T := 56) (brow (outr s1 32)) (size32 _ HLX) rfl (.tmp 2) (.tmp 57) rfl (w.heap.size + 1) (brow z32) rfl rfl (brow_one _) (by rw [brow_size, brow_size, HLX]; rfl) htw.out.r ?_; intro we hge hoe hbe))
              (try simp only [Exit.inBlock, Exit.then])
              refine bodyPost_ret (results_cell_row rfl _ _ (w.heap.size + 1) _ (brow (outr s1 32)) (0, 0) _ rfl hge Tryd.underlying56 rfl (size32 _ HLX)) rfl ?_
              exact ⟨by rw [outr_all, HS1.out], htw.out.below.trans (hbe _ (by omega))⟩
    · have tq : ¬ ((M.length : Int) + (1 + (j : Int))) % 64 = 56 := by intro h; exact hq (hz1.1 (by omega))
      have tq2 : (((M.length : Int) + (1 + (j : Int))) % 64 != 56) = true := by simpa using tq
      have HJ : Hid (j + 1 ≤ zpad M.length) := Lib.hid (by omega)
      clear hz1 hq tq hj
      go_wp2_with (at_builtin; (refine app_e eB_ok rfl (.tmp 20) (.tmp 21) rfl (w.heap.size + 2) (.slice a (1 + j) cap) ([128] ++ List.replicate j 0) rfl (hown.out.on ((Below.refl _ _).alloc (Nat.le_refl _) _)) (.slice (some ⟨wr.heap.size, 0, none⟩) 1 1) [0] rfl (one_e wr (0 : UInt8) eB_ok) (by simp; have := zpad_lt M.length; have := HJ.out; omega) (by have := HW2.out; simp; omega) ?_); intro v5 w4 ho4 hg4 hloc; have HB4 := Lib.hid (((Below.refl wr.heap.size wr).alloc (Nat.le_refl _) (.cells #[.int .u8 0] 5)).mono HW2.out |>.trans ((hown.out.on ((Below.refl _ _).alloc (Nat.le_refl _) _)).below hg4 (by have := HW2.out; simp; omega))); have HO4 := Lib.hid ho4; clear ho4 hg4 hloc)
      go_roundw
      case rel => exact ⟨j + 1, HJ.out, HO4.out.rd.form1 (by simp; omega), Lib.hid (by have h := HO4.out; rw [List.append_assoc, ← List.replicate_succ'] at h; exact h), Lib.hid (hsw.out.keep (Nat.le_refl _) HW1.out HB4.out)⟩
      case measure =>
        obtain ⟨a5, c5, e5⟩ := HO4.out.rd.form1 (n := 1 + j + 1) (by simp; omega)
        have := HJ.out
        have := zpad_lt M.length
        show 70 - sliceLen v5 < 70 - sliceLen (.slice a (1 + j) cap)
        rw [e5]
        simp only [sliceLen]
        omega
end Go.Proofs.YtackbjbmadkkhaaDoor
