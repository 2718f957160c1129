/- Parts of a proof, joined: contracts of functions of the program and plain lemmas (HashH, HashI, HashJ, RegRel, HashK, AppS, WireP). No condition. -/
import Derived.Test.YtbpjdfnnlmblaaaGreatDoorMA02
import Derived.Lib.ConvBytes
import Derived.Laws.AppendOwn
import Derived.Lib.AppendStr
/- The hash of a stream's message. -/
namespace Go.Proofs.YtbpjdfnnlmblaaaGreatDoor
open Go.RowKit
set_option linter.unusedSimpArgs false
set_option linter.unusedVariables false
def brow (l : List UInt8) : Array Value := (bcs l).toArray
def z32 : List UInt8 := List.replicate 32 0
theorem zero_32' : (Tryz.prog.info? 114).map (·.zero) = some (some (.agg (brow z32))) := by kernel_rfl
theorem zero_32 (w : World) : (zeroValue 114).run Tryz.prog w = .ok (.agg (brow z32)) w := by
  have h := zero_32'
  generalize brow z32 = L at h ⊢
  cases hq : Tryz.prog.info? 114 with
  | none => rw [hq] at h; cases h
  | some i =>
    rw [hq] at h
    simp at h
    simp [zeroValue, typeInfo, hq, h]
/-- what lies in memory while the padding is made: the stream, the result's variable -/
structure SW (w : World) (s : HS) (bk : List UInt8) (n : Nat) (wr : World) : Prop where
  b : wr.heap[w.heap.size]? = some (.cells (stc s bk n) 120 (0, 0))
  r : wr.heap[w.heap.size + 1]? = some (.cells (brow z32) 114 (0, 0))
  k : KAt wr
  below : Below w.heap.size w wr
  lb : bk.length = 64
theorem SW.keep {w wr w' : World} {s : HS} {bk : List UInt8} {n : Nat} (h : SW w s bk n wr) {B : Nat} (hB : w.heap.size + 2 ≤ B) (hw : 1 < w.heap.size) (hb : Below B wr w') : SW w s bk n w' :=
  ⟨by rw [hb.block _ (by omega)]; exact h.b, by rw [hb.block _ (by omega)]; exact h.r, by unfold KAt; rw [hb.block _ (by omega)]; exact h.k, h.below.trans (hb.mono (by omega)), h.lb⟩
def sliceLen : Value → Nat
  | .slice _ n _ => n
  | _ => 0
theorem RdE.form1 {α : Type} {E : El α} {w : World} {v : Value} {l : List α} (h : RdE E w v l) {n : Nat} (hn : l.length = n) : ∃ a cap, v = .slice a n cap := by
  obtain ⟨a, cap, rfl, _⟩ := h
  exact ⟨a, cap, by rw [hn]⟩
theorem zpad_lt (n : Nat) : zpad n < 64 := Nat.mod_lt _ (by decide)
theorem zpad_at (n j : Nat) (hj : j ≤ zpad n) : (n + (1 + j)) % 64 = 56 ↔ j = zpad n := by
  unfold zpad at *
  omega
theorem own_b1 {w : World} {base : Nat} (c : UInt8) (hb : base ≤ w.heap.size) : OwnE eB (w.alloc (.cells #[.int .u8 (B8 c)] 5)) base (.slice (some ⟨w.heap.size, 0, none⟩) 1 1) [c] :=
  ⟨by simp [El.flat], .inr ⟨w.heap.size, 1, #[.int .u8 (B8 c)], rfl, hb, heap_alloc_new _ _, Nat.le_refl _, by unfold maxLen; omega, by simp, by simp [El.flat]⟩⟩
theorem b8_of (m : Nat) : B8 (UInt8.ofNat m) = (m : Int) % 256 := by
  unfold B8
  rw [UInt8.toNat_ofNat']
  omega
theorem conv_e {w : World} {v : Value} {l : List UInt8} (h : RdE eB w v l) : (convert 50 9 v).run Tryz.prog w = .ok (.string ⟨l.toArray⟩) w := by
  obtain ⟨a, cap, rfl, h1, h2, h3⟩ := h
  cases a with
  | none =>
    have hl : l = [] := by
      cases l with
      | nil => rfl
      | cons x l =>
        obtain ⟨b, off, e, _⟩ := h3 (by simp)
        cases e
    subst hl
    exact run_convert_bytes_nil w _ _ Tryz.underlying50 Tryz.underlying5 _ _ _ Tryz.underlying9
  | some p =>
    refine run_convert_bytes_back w _ _ _ p cap l Tryz.underlying50 Tryz.underlying5 Tryz.underlying9 (fun j hj => ?_)
    obtain ⟨b, off, e, _, hc⟩ := h3 (by omega)
    cases e
    have hadd : (⟨b, off, none⟩ : Addr).add j = ⟨b, off + j, none⟩ := by unfold Addr.add; split <;> simp_all
    rw [hadd, hc j _ (eB_flat l j hj)]
    simp [byteAt, List.getD_eq_getElem?_getD, hj, B8]
theorem B8_mod (c : UInt8) : B8 c % 256 = B8 c := by
  unfold B8
  have := c.toNat_lt
  omega
/-- the result behind i bytes -/
def outr (s : HS) (i : Nat) : List UInt8 := (hbytes s).take i ++ List.replicate (32 - i) 0
theorem hbytes_len (s : HS) : (hbytes s).length = 32 := rfl
theorem outr_len (s : HS) (i : Nat) (hi : i ≤ 32) : (outr s i).length = 32 := by
  unfold outr
  rw [List.length_append, List.length_take, hbytes_len, List.length_replicate]
  omega
theorem outr_all (s : HS) : outr s 32 = hbytes s := by
  unfold outr
  rw [List.take_of_length_le (Nat.le_of_eq (hbytes_len s)), Nat.sub_self, List.replicate_zero, List.append_nil]
theorem brow_set (s : HS) (i : Nat) (hi : i < 32) (c : UInt8) (hc : (hbytes s)[i]? = some c) : (brow (outr s i)).setIfInBounds i (.int .u8 (B8 c)) = brow (outr s (i + 1)) := by
  unfold brow
  apply Array.ext'
  rw [Array.toList_setIfInBounds]
  show (bcs (outr s i)).set i (.int .u8 (B8 c)) = bcs (outr s (i + 1))
  unfold bcs
  rw [← List.map_set (f := fun x => Value.int .u8 (B8 x))]
  congr 1
  unfold outr
  have hl : ((hbytes s).take i).length = i := by rw [List.length_take, hbytes_len]; omega
  rw [List.set_append_right _ _ (by omega), hl, Nat.sub_self, show 32 - i = (32 - (i + 1)) + 1 by omega, List.replicate_succ, List.set_cons_zero, List.take_add_one, hc]
  simp
theorem hb_at (s : HS) (q r : Nat) (hq : q < 8) (hr : r < 4) : (hbytes s)[4 * q + r]? = (w4 (w16 (hs s) q))[r]? := by
  rcases (by omega : q = 0 ∨ q = 1 ∨ q = 2 ∨ q = 3 ∨ q = 4 ∨ q = 5 ∨ q = 6 ∨ q = 7) with rfl | rfl | rfl | rfl | rfl | rfl | rfl | rfl <;>
    (rcases (by omega : r = 0 ∨ r = 1 ∨ r = 2 ∨ r = 3) with rfl | rfl | rfl | rfl <;> rfl)
theorem brow_at (l : List UInt8) (i : Nat) (hi : i < l.length) : (brow l)[i]? = some (.int .u8 (B8 (byteAt l i))) := by
  simp [brow, bcs, byteAt, hi]
theorem brow_size (l : List UInt8) : (brow l).size = l.length := by simp [brow, bcs]
theorem brow_one (l : List UInt8) : ((brow l).all fun u => u.oneCell') = true := by
  rw [Array.all_eq_true_iff_forall_mem]
  intro x hx
  simp only [brow, bcs, List.mem_toArray, List.mem_map] at hx
  obtain ⟨y, _, rfl⟩ := hx
  rfl
theorem info32 : (Tryz.prog.info? 114).map (·.size) = some 32 := by kernel_rfl
theorem size32 (l : List UInt8) (h : l.length = 32) : (Tryz.prog.info? 114).map (·.size) = some (brow l).size := by rw [brow_size, h]; exact info32
/-- what lies in memory while the result is written -/
structure TW (w : World) (s : HS) (bk : List UInt8) (n g i : Nat) (wr : World) : Prop where
  b : wr.heap[w.heap.size]? = some (.cells (stc s bk n) 120 (0, 0))
  r : wr.heap[w.heap.size + 1]? = some (.cells (brow z32) 114 (0, 0))
  o : wr.heap[g]? = some (.cells (brow (outr s i)) 114 (0, 0))
  hg : w.heap.size + 1 < g
  below : Below w.heap.size w wr
  lb : bk.length = 64
theorem tw_start {w w1 wd : World} {s0 s1 : HS} {bk0 bk1 : List UInt8} {n n1 : Nat} (h : SW w s0 bk0 n w1) (hl : bk1.length = 64) (hg : wd.heap[w.heap.size]? = some (.cells (stc s1 bk1 n1) 120 (0, 0))) (ho : ∀ k, k ≠ w.heap.size → wd.heap[k]? = w1.heap[k]?) (hb : Below w.heap.size w1 wd) :
    TW w s1 bk1 n1 wd.heap.size 0 (wd.alloc (.cells (brow z32) 114)) := by
  have hr : wd.heap[w.heap.size + 1]? = some (.cells (brow z32) 114 (0, 0)) := by rw [ho _ (by omega)]; exact h.r
  have h1 := (Array.getElem?_eq_some_iff.1 hr).1
  exact ⟨by rw [heap_past _ _ _ (by omega)]; exact hg, by rw [heap_past _ _ _ h1]; exact hr, heap_last _ _ _ rfl, h1, (h.below.trans hb).alloc (by omega) _, hl⟩
theorem TW.next {w wr : World} {s : HS} {bk : List UInt8} {n g i : Nat} (h : TW w s bk n g i wr) (hi : i < 32) (c : UInt8) (hc : (hbytes s)[i]? = some c) : TW w s bk n g (i + 1) (wr.setCell ⟨g, i, none⟩ (.int .u8 (B8 c))) := by
  have h1 := h.hg
  rw [setCell_rowC _ _ _ _ _ _ _ h.o, brow_set s i hi c hc]
  exact ⟨by rw [setRow_else _ _ _ _ (by omega)]; exact h.b, by rw [setRow_else _ _ _ _ (by omega)]; exact h.r, setRow_heap _ _ _ _ _ _ h.o, h.hg, h.below.trans (below_row (by omega)), h.lb⟩
attribute [local irreducible] Calls stc blks cmpr row brow
set_option maxRecDepth 100000 in
set_option maxHeartbeats 4000000 in
theorem sum_c (M : List UInt8) (v : Value) (w : World) (hv : StV M v) (hk : KAt w) (hlen : M.length ≤ 100000000000) :
    Calls Tryz.prog 99 #[v] w fun e w' => e = .returned (.agg (brow (sha M))) ∧ Below w.heap.size w w' := by
  have HSV := Lib.hid hv
  obtain ⟨bk0, rfl, hb0, ht0, -⟩ := hv
  have hz := zero_32
  have hw1 : 1 < w.heap.size := hk.lt
  have HW1 := Lib.hid hw1
  have HLEN := Lib.hid hlen
  have H0 : Hid (SW w (blks M (M.length / 64)) bk0 M.length ((w.alloc (.cells (stc (blks M (M.length / 64)) bk0 M.length) 120)).alloc (.cells (brow z32) 114))) := Lib.hid
    ⟨by rw [heap_past _ _ _ (by simp), heap_last _ _ _ rfl], heap_last _ _ _ (by simp), by unfold KAt; rw [heap_past _ _ _ (by first | (simp; done) | (simp; omega)), heap_past _ _ _ hw1]; exact hk, ((Below.refl _ _).alloc (Nat.le_refl _) _).alloc (by simp) _, hb0⟩
  have hmul : (8 : Int) * (M.length : Int) % 18446744073709551616 = ((8 * M.length : Nat) : Int) := by omega
  have c72 : ((w.alloc (.cells (stc (blks M (M.length / 64)) bk0 M.length) 120)).alloc (.cells (brow z32) 114)).cell? ⟨w.heap.size, 72, none⟩ = some (.int .u64 M.length) := by rw [cell_of_row _ _ _ _ _ _ H0.out.b, stc_n _ _ _ hb0]
  clear hk ht0 hb0
  generalize hs0 : blks M (M.length / 64) = s0 at H0 c72 ⊢
  go_enter Tryz.func99, Tryz.ntmps99
  go_wp2
  go_loopw [4] (fun o wr => ∃ j : Nat, j ≤ zpad M.length ∧ (∃ a cap, o = .slice a (1 + j) cap) ∧ Hid (OwnE eB wr (w.heap.size + 2) o ([128] ++ List.replicate j 0)) ∧ Hid (SW w s0 bk0 M.length wr)) (fun o _ => 70 - sliceLen o)
  case atStart =>
    refine ⟨0, Nat.zero_le _, ⟨_, _, rfl⟩, Lib.hid ?_, Lib.hid (H0.out.keep (by simp) HW1.out ((Below.refl _ _).alloc (Nat.le_refl _) _))⟩
    have h := own_b1 (w := (w.alloc (.cells (stc s0 bk0 M.length) 120)).alloc (.cells (brow z32) 114)) (base := w.heap.size + 2) 128 (by simp)
    rw [show B8 128 = 128 from rfl] at h
    simpa using h
  case round =>
    obtain ⟨j, hj, ⟨a, cap, rfl⟩, hown, hsw⟩ := hrel
    have cn : wr.cell? ⟨w.heap.size, 72, none⟩ = some (.int .u64 M.length) := by rw [cell_of_row _ _ _ _ _ _ hsw.out.b, stc_n _ _ _ hsw.out.lb]
    have hzl := zpad_lt M.length
    have hz1 := zpad_at M.length j hj
    have HZ1 := Lib.hid hz1
    have HBS := Lib.hid hsw.out.below.size
    have hw2 : w.heap.size + 2 ≤ wr.heap.size := by have := (Array.getElem?_eq_some_iff.1 hsw.out.r).1; omega
    have HW2 := Lib.hid hw2
    have jb : j ≤ 63 := by omega
    have jb2 : (j : Int) ≤ 63 := by omega
    have mb : (M.length : Int) ≤ 100000000000 := by omega
    by_cases hq : j = zpad M.length
    · have tq : ((M.length : Int) + (1 + (j : Int))) % 64 = 56 := by have := hz1.2 hq; omega
      have tq2 : (((M.length : Int) + (1 + (j : Int))) % 64 != 56) = false := by rw [tq]; rfl
      have HQ := Lib.hid hq
      clear hz1 tq hj hq
      go_wp2
      have hown1 : Hid (OwnE eB wr (w.heap.size + 2) (.slice a (1 + j) cap) ([128] ++ List.replicate (zpad M.length) 0)) := Lib.hid (by rw [← HQ.out]; exact hown.out)
      have HP0 : Hid (([128] ++ List.replicate (zpad M.length) 0 : List UInt8).length ≤ 64) := Lib.hid (by have := zpad_lt M.length; simp; omega)
      have HPL : Hid (([128] ++ List.replicate (zpad M.length) 0 : List UInt8).length = 1 + j) := Lib.hid (by have := HQ.out; simp; omega)
      generalize hP0' : ([128] ++ List.replicate (zpad M.length) 0 : List UInt8) = P0 at hown1 HP0 HPL
      have hP0 := Lib.hid hP0'
      clear hP0'
      have hn0 : 0 ≤ 8 * (M.length : Int) := by omega
      have hn1 : 8 * (M.length : Int) < 18446744073709551616 := by omega
      clear mb hlen hmul
      generalize hNI : 8 * (M.length : Int) = NI at hn0 hn1 ⊢
      have HNI : Hid (NI = 8 * (M.length : Int)) := Lib.hid hNI.symm
      clear hNI
      go_loopw [23, 4] (fun o u wr => ∃ i : Nat, i ≤ 8 ∧ o = .int .i64 i ∧ (∃ a cap, u = .slice a (1 + j + i) cap) ∧ Hid (OwnE eB wr (w.heap.size + 2) u (P0 ++ (be8 (8 * M.length)).take i)) ∧ Hid (SW w s0 bk0 M.length wr)) (fun o _ _ => 8 - (intOf o).toNat)
      case atStart => exact ⟨0, by omega, rfl, ⟨_, _, rfl⟩, by simpa using hown1, hsw⟩
      case round =>
        obtain ⟨i, hi, rfl, ⟨a2, cap2, rfl⟩, hown2, hsw2⟩ := hrel
        have HW3 : Hid (w.heap.size + 2 ≤ wr.heap.size) := Lib.hid (by have := (Array.getElem?_eq_some_iff.1 hsw2.out.r).1; omega)
        rcases (by omega : i = 0 ∨ i = 1 ∨ i = 2 ∨ i = 3 ∨ i = 4 ∨ i = 5 ∨ i = 6 ∨ i = 7 ∨ i = 8) with rfl | rfl | rfl | rfl | rfl | rfl | rfl | rfl | rfl
        --BE
        · have et : (be8 (8 * M.length)).take (0 + 1) = (be8 (8 * M.length)).take 0 ++ [UInt8.ofNat (8 * M.length / 2 ^ 56)] := rfl
          have ev : NI / 72057594037927936 % 256 = B8 (UInt8.ofNat (8 * M.length / 2 ^ 56)) := by rw [b8_of, HNI.out]; omega
          have ev0 : NI / 72057594037927936 = B8 (UInt8.ofNat (8 * M.length / 2 ^ 56)) := by rw [← ev]; omega
          generalize hc : UInt8.ofNat (8 * M.length / 2 ^ 56) = c at et ev ev0
          have em : B8 c % 256 = B8 c := B8_mod c
          have ET := Lib.hid et
          clear et hc
          go_wp2_with (at_builtin; go_loud (refine app_e eB_ok rfl (.tmp 26) (.tmp 33) rfl (w.heap.size + 2) _ _ rfl (hown2.out.on ((Below.refl _ _).alloc (Nat.le_refl _) _)) (.slice (some ⟨wr.heap.size, 0, none⟩) 1 1) [c] rfl (one_e wr c eB_ok) (by have := HP0.out; simp; omega) (by have := HW3.out; simp; omega) ?_); intro v5 w4 ho4 hg4 hloc; have HB4 := Lib.hid (((Below.refl wr.heap.size wr).alloc (Nat.le_refl _) (.cells #[.int .u8 (B8 c)] 5)).mono HW3.out |>.trans ((hown2.out.on ((Below.refl _ _).alloc (Nat.le_refl _) _)).below hg4 (by have := HW3.out; simp; omega))); have HO4 := Lib.hid ho4; clear ho4 hg4 hloc)
          go_roundw
          case rel => exact ⟨1, by decide, by go_num, HO4.out.rd.form1 (by have := HP0.out; have := HPL.out; simp [be8]; omega), Lib.hid (by have h := HO4.out; rw [List.append_assoc, ← ET.out] at h; exact h), Lib.hid (hsw2.out.keep (Nat.le_refl _) HW1.out HB4.out)⟩
          case measure => simp [intOf]
        · have et : (be8 (8 * M.length)).take (1 + 1) = (be8 (8 * M.length)).take 1 ++ [UInt8.ofNat (8 * M.length / 2 ^ 48)] := rfl
          have ev : NI / 281474976710656 % 256 = B8 (UInt8.ofNat (8 * M.length / 2 ^ 48)) := by rw [b8_of, HNI.out]; omega
          skip
          generalize hc : UInt8.ofNat (8 * M.length / 2 ^ 48) = c at et ev 
          have em : B8 c % 256 = B8 c := B8_mod c
          have ET := Lib.hid et
          clear et hc
          go_wp2_with (at_builtin; go_loud (refine app_e eB_ok rfl (.tmp 26) (.tmp 33) rfl (w.heap.size + 2) _ _ rfl (hown2.out.on ((Below.refl _ _).alloc (Nat.le_refl _) _)) (.slice (some ⟨wr.heap.size, 0, none⟩) 1 1) [c] rfl (one_e wr c eB_ok) (by have := HP0.out; simp; omega) (by have := HW3.out; simp; omega) ?_); intro v5 w4 ho4 hg4 hloc; have HB4 := Lib.hid (((Below.refl wr.heap.size wr).alloc (Nat.le_refl _) (.cells #[.int .u8 (B8 c)] 5)).mono HW3.out |>.trans ((hown2.out.on ((Below.refl _ _).alloc (Nat.le_refl _) _)).below hg4 (by have := HW3.out; simp; omega))); have HO4 := Lib.hid ho4; clear ho4 hg4 hloc)
          go_roundw
          case rel => exact ⟨2, by decide, by go_num, HO4.out.rd.form1 (by have := HP0.out; have := HPL.out; simp [be8]; omega), Lib.hid (by have h := HO4.out; rw [List.append_assoc, ← ET.out] at h; exact h), Lib.hid (hsw2.out.keep (Nat.le_refl _) HW1.out HB4.out)⟩
          case measure => simp [intOf]
        · have et : (be8 (8 * M.length)).take (2 + 1) = (be8 (8 * M.length)).take 2 ++ [UInt8.ofNat (8 * M.length / 2 ^ 40)] := rfl
          have ev : NI / 1099511627776 % 256 = B8 (UInt8.ofNat (8 * M.length / 2 ^ 40)) := by rw [b8_of, HNI.out]; omega
          skip
          generalize hc : UInt8.ofNat (8 * M.length / 2 ^ 40) = c at et ev 
          have em : B8 c % 256 = B8 c := B8_mod c
          have ET := Lib.hid et
          clear et hc
          go_wp2_with (at_builtin; go_loud (refine app_e eB_ok rfl (.tmp 26) (.tmp 33) rfl (w.heap.size + 2) _ _ rfl (hown2.out.on ((Below.refl _ _).alloc (Nat.le_refl _) _)) (.slice (some ⟨wr.heap.size, 0, none⟩) 1 1) [c] rfl (one_e wr c eB_ok) (by have := HP0.out; simp; omega) (by have := HW3.out; simp; omega) ?_); intro v5 w4 ho4 hg4 hloc; have HB4 := Lib.hid (((Below.refl wr.heap.size wr).alloc (Nat.le_refl _) (.cells #[.int .u8 (B8 c)] 5)).mono HW3.out |>.trans ((hown2.out.on ((Below.refl _ _).alloc (Nat.le_refl _) _)).below hg4 (by have := HW3.out; simp; omega))); have HO4 := Lib.hid ho4; clear ho4 hg4 hloc)
          go_roundw
          case rel => exact ⟨3, by decide, by go_num, HO4.out.rd.form1 (by have := HP0.out; have := HPL.out; simp [be8]; omega), Lib.hid (by have h := HO4.out; rw [List.append_assoc, ← ET.out] at h; exact h), Lib.hid (hsw2.out.keep (Nat.le_refl _) HW1.out HB4.out)⟩
          case measure => simp [intOf]
        · have et : (be8 (8 * M.length)).take (3 + 1) = (be8 (8 * M.length)).take 3 ++ [UInt8.ofNat (8 * M.length / 2 ^ 32)] := rfl
          have ev : NI / 4294967296 % 256 = B8 (UInt8.ofNat (8 * M.length / 2 ^ 32)) := by rw [b8_of, HNI.out]; omega
          skip
          generalize hc : UInt8.ofNat (8 * M.length / 2 ^ 32) = c at et ev 
          have em : B8 c % 256 = B8 c := B8_mod c
          have ET := Lib.hid et
          clear et hc
          go_wp2_with (at_builtin; go_loud (refine app_e eB_ok rfl (.tmp 26) (.tmp 33) rfl (w.heap.size + 2) _ _ rfl (hown2.out.on ((Below.refl _ _).alloc (Nat.le_refl _) _)) (.slice (some ⟨wr.heap.size, 0, none⟩) 1 1) [c] rfl (one_e wr c eB_ok) (by have := HP0.out; simp; omega) (by have := HW3.out; simp; omega) ?_); intro v5 w4 ho4 hg4 hloc; have HB4 := Lib.hid (((Below.refl wr.heap.size wr).alloc (Nat.le_refl _) (.cells #[.int .u8 (B8 c)] 5)).mono HW3.out |>.trans ((hown2.out.on ((Below.refl _ _).alloc (Nat.le_refl _) _)).below hg4 (by have := HW3.out; simp; omega))); have HO4 := Lib.hid ho4; clear ho4 hg4 hloc)
          go_roundw
          case rel => exact ⟨4, by decide, by go_num, HO4.out.rd.form1 (by have := HP0.out; have := HPL.out; simp [be8]; omega), Lib.hid (by have h := HO4.out; rw [List.append_assoc, ← ET.out] at h; exact h), Lib.hid (hsw2.out.keep (Nat.le_refl _) HW1.out HB4.out)⟩
          case measure => simp [intOf]
        · have et : (be8 (8 * M.length)).take (4 + 1) = (be8 (8 * M.length)).take 4 ++ [UInt8.ofNat (8 * M.length / 2 ^ 24)] := rfl
          have ev : NI / 16777216 % 256 = B8 (UInt8.ofNat (8 * M.length / 2 ^ 24)) := by rw [b8_of, HNI.out]; omega
          skip
          generalize hc : UInt8.ofNat (8 * M.length / 2 ^ 24) = c at et ev 
          have em : B8 c % 256 = B8 c := B8_mod c
          have ET := Lib.hid et
          clear et hc
          go_wp2_with (at_builtin; go_loud (refine app_e eB_ok rfl (.tmp 26) (.tmp 33) rfl (w.heap.size + 2) _ _ rfl (hown2.out.on ((Below.refl _ _).alloc (Nat.le_refl _) _)) (.slice (some ⟨wr.heap.size, 0, none⟩) 1 1) [c] rfl (one_e wr c eB_ok) (by have := HP0.out; simp; omega) (by have := HW3.out; simp; omega) ?_); intro v5 w4 ho4 hg4 hloc; have HB4 := Lib.hid (((Below.refl wr.heap.size wr).alloc (Nat.le_refl _) (.cells #[.int .u8 (B8 c)] 5)).mono HW3.out |>.trans ((hown2.out.on ((Below.refl _ _).alloc (Nat.le_refl _) _)).below hg4 (by have := HW3.out; simp; omega))); have HO4 := Lib.hid ho4; clear ho4 hg4 hloc)
          go_roundw
          case rel => exact ⟨5, by decide, by go_num, HO4.out.rd.form1 (by have := HP0.out; have := HPL.out; simp [be8]; omega), Lib.hid (by have h := HO4.out; rw [List.append_assoc, ← ET.out] at h; exact h), Lib.hid (hsw2.out.keep (Nat.le_refl _) HW1.out HB4.out)⟩
          case measure => simp [intOf]
        · have et : (be8 (8 * M.length)).take (5 + 1) = (be8 (8 * M.length)).take 5 ++ [UInt8.ofNat (8 * M.length / 2 ^ 16)] := rfl
          have ev : NI / 65536 % 256 = B8 (UInt8.ofNat (8 * M.length / 2 ^ 16)) := by rw [b8_of, HNI.out]; omega
          skip
          generalize hc : UInt8.ofNat (8 * M.length / 2 ^ 16) = c at et ev 
          have em : B8 c % 256 = B8 c := B8_mod c
          have ET := Lib.hid et
          clear et hc
          go_wp2_with (at_builtin; go_loud (refine app_e eB_ok rfl (.tmp 26) (.tmp 33) rfl (w.heap.size + 2) _ _ rfl (hown2.out.on ((Below.refl _ _).alloc (Nat.le_refl _) _)) (.slice (some ⟨wr.heap.size, 0, none⟩) 1 1) [c] rfl (one_e wr c eB_ok) (by have := HP0.out; simp; omega) (by have := HW3.out; simp; omega) ?_); intro v5 w4 ho4 hg4 hloc; have HB4 := Lib.hid (((Below.refl wr.heap.size wr).alloc (Nat.le_refl _) (.cells #[.int .u8 (B8 c)] 5)).mono HW3.out |>.trans ((hown2.out.on ((Below.refl _ _).alloc (Nat.le_refl _) _)).below hg4 (by have := HW3.out; simp; omega))); have HO4 := Lib.hid ho4; clear ho4 hg4 hloc)
          go_roundw
          case rel => exact ⟨6, by decide, by go_num, HO4.out.rd.form1 (by have := HP0.out; have := HPL.out; simp [be8]; omega), Lib.hid (by have h := HO4.out; rw [List.append_assoc, ← ET.out] at h; exact h), Lib.hid (hsw2.out.keep (Nat.le_refl _) HW1.out HB4.out)⟩
          case measure => simp [intOf]
        · have et : (be8 (8 * M.length)).take (6 + 1) = (be8 (8 * M.length)).take 6 ++ [UInt8.ofNat (8 * M.length / 2 ^ 8)] := rfl
          have ev : NI / 256 % 256 = B8 (UInt8.ofNat (8 * M.length / 2 ^ 8)) := by rw [b8_of, HNI.out]; omega
          skip
          generalize hc : UInt8.ofNat (8 * M.length / 2 ^ 8) = c at et ev 
          have em : B8 c % 256 = B8 c := B8_mod c
          have ET := Lib.hid et
          clear et hc
          go_wp2_with (at_builtin; go_loud (refine app_e eB_ok rfl (.tmp 26) (.tmp 33) rfl (w.heap.size + 2) _ _ rfl (hown2.out.on ((Below.refl _ _).alloc (Nat.le_refl _) _)) (.slice (some ⟨wr.heap.size, 0, none⟩) 1 1) [c] rfl (one_e wr c eB_ok) (by have := HP0.out; simp; omega) (by have := HW3.out; simp; omega) ?_); intro v5 w4 ho4 hg4 hloc; have HB4 := Lib.hid (((Below.refl wr.heap.size wr).alloc (Nat.le_refl _) (.cells #[.int .u8 (B8 c)] 5)).mono HW3.out |>.trans ((hown2.out.on ((Below.refl _ _).alloc (Nat.le_refl _) _)).below hg4 (by have := HW3.out; simp; omega))); have HO4 := Lib.hid ho4; clear ho4 hg4 hloc)
          go_roundw
          case rel => exact ⟨7, by decide, by go_num, HO4.out.rd.form1 (by have := HP0.out; have := HPL.out; simp [be8]; omega), Lib.hid (by have h := HO4.out; rw [List.append_assoc, ← ET.out] at h; exact h), Lib.hid (hsw2.out.keep (Nat.le_refl _) HW1.out HB4.out)⟩
          case measure => simp [intOf]
        · have et : (be8 (8 * M.length)).take (7 + 1) = (be8 (8 * M.length)).take 7 ++ [UInt8.ofNat (8 * M.length / 2 ^ 0)] := rfl
          have ev : NI % 256 = B8 (UInt8.ofNat (8 * M.length / 2 ^ 0)) := by rw [b8_of, HNI.out]; omega
          skip
          generalize hc : UInt8.ofNat (8 * M.length / 2 ^ 0) = c at et ev 
          have em : B8 c % 256 = B8 c := B8_mod c
          have ET := Lib.hid et
          clear et hc
          go_wp2_with (at_builtin; go_loud (refine app_e eB_ok rfl (.tmp 26) (.tmp 33) rfl (w.heap.size + 2) _ _ rfl (hown2.out.on ((Below.refl _ _).alloc (Nat.le_refl _) _)) (.slice (some ⟨wr.heap.size, 0, none⟩) 1 1) [c] rfl (one_e wr c eB_ok) (by have := HP0.out; simp; omega) (by have := HW3.out; simp; omega) ?_); intro v5 w4 ho4 hg4 hloc; have HB4 := Lib.hid (((Below.refl wr.heap.size wr).alloc (Nat.le_refl _) (.cells #[.int .u8 (B8 c)] 5)).mono HW3.out |>.trans ((hown2.out.on ((Below.refl _ _).alloc (Nat.le_refl _) _)).below hg4 (by have := HW3.out; simp; omega))); have HO4 := Lib.hid ho4; clear ho4 hg4 hloc)
          go_roundw
          case rel => exact ⟨8, by decide, by go_num, HO4.out.rd.form1 (by have := HP0.out; have := HPL.out; simp [be8]; omega), Lib.hid (by have h := HO4.out; rw [List.append_assoc, ← ET.out] at h; exact h), Lib.hid (hsw2.out.keep (Nat.le_refl _) HW1.out HB4.out)⟩
          case measure => simp [intOf]
        --ENDBE
        · have hcv := conv_e hown2.out.rd
          have HSV2 : Hid (StV M (.agg (stc s0 bk0 M.length))) := Lib.hid (by have h := HSV.out; rw [hs0] at h; exact h)
          have hPD : M ++ (P0 ++ (be8 (8 * M.length)).take 8) = padd M := by rw [← hP0.out, List.append_assoc]; rfl
          have hPL2 : M.length + (P0 ++ (be8 (8 * M.length)).take 8).length ≤ 1000000000000 := by
            have h1 := HP0.out
            have h2 := HLEN.out
            have h3 : ((be8 (8 * M.length)).take 8).length = 8 := rfl
            rw [List.length_append, h3]
            omega
          have HPL2 := Lib.hid hPL2
          have HPD := Lib.hid hPD
          clear hPD hPL2 HNI hn0 hn1
          generalize P0 ++ (be8 (8 * M.length)).take 8 = PD at hcv HPL2 HPD hown2
          go_wp2_with (first
            | (refine wpList_load_row rfl 120 (.tmp 1) rfl w.heap.size rfl _ _ (0, 0) _ hsw2.out.b Tryz.underlying120 rfl (size73 _ _ _ hsw2.out.lb) ?_)
            | (go_at_call 98; refine (add_c M PD _ _ HSV2.out hsw2.out.k HPL2.out).mono ?_; rintro e w1 ⟨v1, rfl, ⟨bk1, rfl, hbl, -⟩, hb1⟩; rw [HPD.out]; have HBL := Lib.hid hbl; have SW1 := Lib.hid (hsw2.out.keep HW3.out HW1.out hb1); clear hbl hb1; generalize hs1 : blks (padd M) ((padd M).length / 64) = s1; generalize hn1 : (padd M).length = n1)
            | (refine st_T (T := 120) (stc s1 bk1 n1) (size73 _ _ _ HBL.out) rfl (.tmp 1) (.tmp 39) rfl w.heap.size (stc s0 bk0 M.length) rfl rfl (stc_one _ _ _) (by rw [stc_size _ _ _ HBL.out, stc_size _ _ _ SW1.out.lb]) SW1.out.b ?_; intro wd hgd hod hbd; have HT : Hid (TW w s1 bk1 n1 wd.heap.size 0 (wd.alloc (.cells (brow z32) 114))) := (Lib.hid (tw_start SW1.out HBL.out hgd hod (hbd _ (Nat.le_refl _)))); clear hgd hod hbd))
          have HS1 : Hid (sha M = hbytes s1) := Lib.hid (by rw [← hs1]; rfl)
          clear hs1 hn1 hcv
          go_loopw [40] (fun o wr => ∃ i : Nat, i ≤ 32 ∧ o = .int .i64 i ∧ Hid (TW w s1 bk1 n1 wd.heap.size i wr)) (fun o _ => 32 - (intOf o).toNat)
          case atStart => exact ⟨0, by omega, rfl, HT⟩
          case round =>
            obtain ⟨i, hi, rfl, htw⟩ := hrel
            by_cases h32 : i < 32
            · obtain ⟨q, r, hqr, hq8, hr4⟩ : ∃ q r, i = 4 * q + r ∧ q < 8 ∧ r < 4 := ⟨i / 4, i % 4, by omega, by omega, by omega⟩
              have hcx : wr.cell? ⟨w.heap.size, q, none⟩ = some (.int .u32 (W32 (w16 (hs s1) q))) := by rw [cell_of_row _ _ _ _ _ _ htw.out.b, stc_s _ _ _ _ hq8]
              have hfz := frozen_of_row _ _ i _ _ htw.out.o
              have hq : (i : Int) / 4 = (q : Int) := by omega
              have hbx : (hbytes s1)[i]? = (w4 (w16 (hs s1) q))[r]? := by rw [hqr]; exact hb_at s1 q r hq8 hr4
              have hL : i < 32 := h32
              have hcell : wr.cell? ⟨wd.heap.size, i, none⟩ = some (.int .u8 (B8 (byteAt (outr s1 i) i))) := by
                rw [cell_of_row _ _ _ _ _ _ htw.out.o]
                exact brow_at _ _ (by rw [outr_len _ _ hi]; exact h32)
              have hr : (i : Int) % 4 = (r : Int) := by omega
              generalize w16 (hs s1) q = x at hcx hbx
              have HQR := Lib.hid hqr
              clear hqr
              rcases (by omega : r = 0 ∨ r = 1 ∨ r = 2 ∨ r = 3) with rfl | rfl | rfl | rfl
              · have HX : Hid ((hbytes s1)[i]? = some (shr x 24).toUInt8) := Lib.hid hbx
                clear hbx
                go_wp2
                go_roundw
                case rel => exact ⟨i + 1, h32, by go_num, Lib.hid (htw.out.next h32 _ HX.out)⟩
                case measure => simp [intOf]; omega
              · have HX : Hid ((hbytes s1)[i]? = some (shr x 16).toUInt8) := Lib.hid hbx
                clear hbx
                go_wp2
                go_roundw
                case rel => exact ⟨i + 1, h32, by go_num, Lib.hid (htw.out.next h32 _ HX.out)⟩
                case measure => simp [intOf]; omega
              · have HX : Hid ((hbytes s1)[i]? = some (shr x 8).toUInt8) := Lib.hid hbx
                clear hbx
                go_wp2
                go_roundw
                case rel => exact ⟨i + 1, h32, by go_num, Lib.hid (htw.out.next h32 _ HX.out)⟩
                case measure => simp [intOf]; omega
              · have HX : Hid ((hbytes s1)[i]? = some x.toUInt8) := Lib.hid hbx
                clear hbx
                go_wp2
                go_roundw
                case rel => exact ⟨i + 1, h32, by go_num, Lib.hid (htw.out.next h32 _ HX.out)⟩
                case measure => simp [intOf]; omega
            · have h32' : i = 32 := by omega
              subst h32'
              have HLX : (outr s1 32).length = 32 := outr_len _ _ (Nat.le_refl _)
              clear h32 hi
              go_wp2_with (first
                | (refine wpList_load_row rfl 114 (.tmp 6) rfl wd.heap.size rfl _ _ (0, 0) _ htw.out.o Tryz.underlying114 rfl (size32 _ HLX) ?_)
                | (refine st_T (T := 114) (brow (outr s1 32)) (size32 _ HLX) rfl (.tmp 2) (.tmp 57) rfl (w.heap.size + 1) (brow z32) rfl rfl (brow_one _) (by rw [brow_size, brow_size, HLX]; rfl) htw.out.r ?_; intro we hge hoe hbe))
              (try simp only [Exit.inBlock, Exit.then])
              refine bodyPost_ret (results_cell_row rfl _ _ (w.heap.size + 1) _ (brow (outr s1 32)) (0, 0) _ rfl hge Tryz.underlying114 rfl (size32 _ HLX)) rfl ?_
              exact ⟨by rw [outr_all, HS1.out], htw.out.below.trans (hbe _ (by omega))⟩
    · have tq : ¬ ((M.length : Int) + (1 + (j : Int))) % 64 = 56 := by intro h; exact hq (hz1.1 (by omega))
      have tq2 : (((M.length : Int) + (1 + (j : Int))) % 64 != 56) = true := by simpa using tq
      have HJ : Hid (j + 1 ≤ zpad M.length) := Lib.hid (by omega)
      clear hz1 hq tq hj
      go_wp2_with (at_builtin; (refine app_e eB_ok rfl (.tmp 20) (.tmp 21) rfl (w.heap.size + 2) (.slice a (1 + j) cap) ([128] ++ List.replicate j 0) rfl (hown.out.on ((Below.refl _ _).alloc (Nat.le_refl _) _)) (.slice (some ⟨wr.heap.size, 0, none⟩) 1 1) [0] rfl (one_e wr (0 : UInt8) eB_ok) (by simp; have := zpad_lt M.length; have := HJ.out; omega) (by have := HW2.out; simp; omega) ?_); intro v5 w4 ho4 hg4 hloc; have HB4 := Lib.hid (((Below.refl wr.heap.size wr).alloc (Nat.le_refl _) (.cells #[.int .u8 0] 5)).mono HW2.out |>.trans ((hown.out.on ((Below.refl _ _).alloc (Nat.le_refl _) _)).below hg4 (by have := HW2.out; simp; omega))); have HO4 := Lib.hid ho4; clear ho4 hg4 hloc)
      go_roundw
      case rel => exact ⟨j + 1, HJ.out, HO4.out.rd.form1 (by simp; omega), Lib.hid (by have h := HO4.out; rw [List.append_assoc, ← List.replicate_succ'] at h; exact h), Lib.hid (hsw.out.keep (Nat.le_refl _) HW1.out HB4.out)⟩
      case measure =>
        obtain ⟨a5, c5, e5⟩ := HO4.out.rd.form1 (n := 1 + j + 1) (by simp; omega)
        have := HJ.out
        have := zpad_lt M.length
        show 70 - sliceLen v5 < 70 - sliceLen (.slice a (1 + j) cap)
        rw [e5]
        simp only [sliceLen]
        omega
end Go.Proofs.YtbpjdfnnlmblaaaGreatDoor
/- The hash of bytes. -/
namespace Go.Proofs.YtbpjdfnnlmblaaaGreatDoor
open Go.RowKit
set_option linter.unusedSimpArgs false
set_option linter.unusedVariables false
theorem tailB_take (n : Nat) : ∀ M : List UInt8, M.length = n → (tailB M).take (M.length % 64) = M.drop (64 * (M.length / 64)) := by
  induction n with
  | zero =>
    intro M hM
    have : M = [] := List.length_eq_zero_iff.1 hM
    subst this
    rfl
  | succ n ih =>
    intro M hM
    have hne : M ≠ [] := by intro e; rw [e] at hM; simp at hM
    have hd : M.dropLast.length = n := by rw [List.length_dropLast]; omega
    rw [← List.dropLast_concat_getLast hne]
    generalize M.getLast hne = c
    generalize M.dropLast = N at hd ⊢
    have h := ih N hd
    have hlt : N.length % 64 < 64 := Nat.mod_lt _ (by decide)
    rw [tailB_lay _ _ (by simp only [List.length_singleton]; omega)]
    by_cases h64 : N.length % 64 + 1 = 64
    · obtain ⟨p1, p2, p3, p4⟩ := st_full N [c] (tailB N) (tailB_len N) h (by simpa using h64)
      rw [p1, p2, p4, List.take_zero]
    · obtain ⟨p1, p2, p3, p4⟩ := st_part N [c] (tailB N) (tailB_len N) h (by simp only [List.length_singleton]; omega)
      rw [p1, p2, p4]
theorem stv_ok (M : List UInt8) : StV M (stv M) := ⟨tailB M, rfl, tailB_len M, tailB_take _ M rfl, rfl⟩
theorem begin_s (w : World) : Calls Tryz.prog 97 #[] w fun e w' => e = .returned (stv []) ∧ Below w.heap.size w w' := begin_c w
theorem add_s (M text : List UInt8) (w : World) (hk : KAt w) (hlen : M.length + text.length ≤ 1000000000000) :
    Calls Tryz.prog 98 #[stv M, .string ⟨text.toArray⟩] w fun e w' => e = .returned (stv (M ++ text)) ∧ Below w.heap.size w w' := by
  refine (add_c M text _ w (stv_ok M) hk hlen).mono ?_
  rintro e w' ⟨v', rfl, hv, hb⟩
  exact ⟨by rw [hv.eq], hb⟩
theorem sum_s (M : List UInt8) (w : World) (hk : KAt w) (hlen : M.length ≤ 100000000000) :
    Calls Tryz.prog 99 #[stv M] w fun e w' => e = .returned (.agg (brow (sha M))) ∧ Below w.heap.size w w' := sum_c M _ w (stv_ok M) hk hlen
theorem KAt.on {w w' : World} (h : KAt w) (hb : Below w.heap.size w w') : KAt w' := by
  have hlt := h.lt
  unfold KAt
  rw [hb.block _ hlt]
  exact h
theorem KAt.alloc {w : World} (h : KAt w) (X : Obj) : KAt (w.alloc X) := h.on ((Below.refl _ _).alloc (Nat.le_refl _) X)
theorem KAt.later {w : World} (h : KAt w) (u : Later w) : KAt u.now := h.on u.below
attribute [local irreducible] Calls stc blks cmpr row brow stv sha
set_option maxRecDepth 100000 in
set_option maxHeartbeats 2000000 in
theorem hsum_c (v : Value) (m : List UInt8) (w : World) (hv : RdE eB w v m) (hk : KAt w) (hlen : m.length ≤ 100000000000) :
    Calls Tryz.prog 95 #[v] w fun e w' => e = .returned (.agg (brow (sha m))) ∧ Below w.heap.size w w' := by
  have hz := zero_32
  have hcv : ∀ u : Later (w.alloc (.cells (brow z32) 114)), (convert 50 9 v).run Tryz.prog u.now = .ok (.string ⟨m.toArray⟩) u.now := fun u => conv_e ((hv.alloc _).on u.below)
  have HK : Hid (KAt (w.alloc (.cells (brow z32) 114))) := Lib.hid (hk.alloc _)
  have HB : Hid (Below w.heap.size w (w.alloc (.cells (brow z32) 114))) := Lib.hid ((Below.refl _ _).alloc (Nat.le_refl _) _)
  have HG : Hid ((w.alloc (.cells (brow z32) 114)).heap[w.heap.size]? = some (.cells (brow z32) 114 (0, 0))) := Lib.hid (heap_last _ _ _ rfl)
  have h32 : (brow (sha m)).size = 32 := by rw [brow_size, sha_len]
  have HL := Lib.hid hlen
  clear hk hlen
  go_enter Tryz.func95, Tryz.ntmps95
  go_wp2
  generalize w.alloc (.cells (brow z32) 114) = wa at hcv HK HB HG ⊢
  refine tailL 5 (by kernel_rfl) (by kernel_rfl) ?_
  simp only [List.take_succ_cons, List.take_zero, List.drop_succ_cons, List.drop_zero]
  repeat (first
    | go_big_quiet_step ((go_at_call 97; exact Later.call _ (begin_s _)))
    | go_big_quiet_step ((go_at_call 98; exact Later.call _ (add_s [] m _ (HK.out.later _) (by have := HL.out; simp; omega))))
    | go_big_quiet_step ((go_at_call 99; exact Later.call _ (sum_s m _ (HK.out.later _) HL.out))))
  refine wpQuiet_nil ?_
  rintro _ ⟨u, rfl⟩
  have HG2 : Hid (u.now.heap[w.heap.size]? = some (.cells (brow z32) 114 (0, 0))) := Lib.hid (by rw [u.below.block _ (Array.getElem?_eq_some_iff.1 HG.out).1]; exact HG.out)
  go_wp2_with (refine st_T (T := 114) (brow (sha m)) (size32 _ (sha_len m)) rfl (.tmp 2) (.tmp 7) rfl w.heap.size (brow z32) rfl rfl (brow_one _) (by rw [brow_size, brow_size, sha_len]; rfl) HG2.out ?_; intro we hge hoe hbe)
  (try simp only [Exit.inBlock, Exit.then])
  refine bodyPost_ret (results_cell_row rfl _ _ w.heap.size _ (brow (sha m)) (0, 0) _ rfl hge Tryz.underlying114 rfl (size32 _ (sha_len m))) rfl ?_
  exact ⟨rfl, HB.out.trans ((u.below.mono HB.out.size).trans (hbe _ (Nat.le_refl _)))⟩
end Go.Proofs.YtbpjdfnnlmblaaaGreatDoor
/- A key is padded and combined with a byte. -/
namespace Go.Proofs.YtbpjdfnnlmblaaaGreatDoor
open Go.RowKit
set_option linter.unusedSimpArgs false
set_option linter.unusedVariables false
theorem zero_b64' : (Tryz.prog.info? 116).map (·.zero) = some (some (.agg (brow zb))) := by kernel_rfl
theorem zero_b64 (w : World) : (zeroValue 116).run Tryz.prog w = .ok (.agg (brow zb)) w := by
  have h := zero_b64'
  generalize brow zb = L at h ⊢
  cases hq : Tryz.prog.info? 116 with
  | none => rw [hq] at h; cases h
  | some i =>
    rw [hq] at h
    simp at h
    simp [zeroValue, typeInfo, hq, h]
/-- the key's bytes, i of them combined -/
def pki (k : List UInt8) (c : UInt8) (i : Nat) : List UInt8 := (padK k c).take i ++ (lay zb 0 k).drop i
theorem padK_len (k : List UInt8) (c : UInt8) : (padK k c).length = 64 := by unfold padK; rw [List.length_map, List.length_range]
theorem lay0_len (k : List UInt8) (hk : k.length ≤ 64) : (lay zb 0 k).length = 64 := lay_len _ _ _ rfl (by omega)
theorem lay0_at (k : List UInt8) (i : Nat) (hk : k.length ≤ 64) (hi : i < 64) : (lay zb 0 k)[i]? = some (byteAt k i) := by
  unfold lay byteAt
  rw [List.take_zero, List.nil_append, Nat.zero_add]
  by_cases h : i < k.length
  · rw [List.getElem?_append_left h, List.getElem?_eq_getElem h, List.getD_eq_getElem?_getD, List.getElem?_eq_getElem h]
    rfl
  · rw [List.getElem?_append_right (by omega), List.getElem?_drop, List.getD_eq_getElem?_getD, List.getElem?_eq_none (Nat.le_of_not_lt h)]
    have : zb[k.length + (i - k.length)]? = some 0 := by
      unfold zb
      rw [List.getElem?_replicate, if_pos (by omega)]
    rw [this]
    rfl
theorem pki_len (k : List UInt8) (c : UInt8) (i : Nat) (hk : k.length ≤ 64) (hi : i ≤ 64) : (pki k c i).length = 64 := by
  unfold pki
  rw [List.length_append, List.length_take, List.length_drop, padK_len, lay0_len k hk]
  omega
theorem pki_at (k : List UInt8) (c : UInt8) (i : Nat) (hk : k.length ≤ 64) (hi : i < 64) : (pki k c i)[i]? = some (byteAt k i) := by
  unfold pki
  have hl : ((padK k c).take i).length = i := by rw [List.length_take, padK_len]; omega
  rw [List.getElem?_append_right (by omega), hl, Nat.sub_self, List.getElem?_drop, Nat.add_zero, lay0_at k i hk hi]
theorem pki_set (k : List UInt8) (c : UInt8) (i : Nat) (hk : k.length ≤ 64) (hi : i < 64) : (brow (pki k c i)).setIfInBounds i (.int .u8 (B8 (byteAt k i ^^^ c))) = brow (pki k c (i + 1)) := by
  unfold brow
  apply Array.ext'
  rw [Array.toList_setIfInBounds]
  show (bcs (pki k c i)).set i (.int .u8 (B8 _)) = bcs (pki k c (i + 1))
  unfold bcs
  rw [← List.map_set (f := fun x => Value.int .u8 (B8 x))]
  congr 1
  unfold pki
  have hl : ((padK k c).take i).length = i := by rw [List.length_take, padK_len]; omega
  have hd : i < (lay zb 0 k).length := by rw [lay0_len k hk]; exact hi
  have hp : (padK k c)[i]? = some (byteAt k i ^^^ c) := by
    unfold padK
    rw [List.getElem?_map, List.getElem?_range hi]
    rfl
  rw [List.set_append_right _ _ (by omega), hl, Nat.sub_self, List.drop_eq_getElem_cons hd, List.set_cons_zero, List.take_add_one, hp]
  simp
theorem pki_all (k : List UInt8) (c : UInt8) (hk : k.length ≤ 64) : pki k c 64 = padK k c := by
  unfold pki
  rw [List.take_of_length_le (Nat.le_of_eq (padK_len k c)), List.drop_eq_nil_of_le (Nat.le_of_eq (lay0_len k hk)), List.append_nil]
/-- a row of bytes in memory is a slice -/
theorem row_rd {w : World} {g : Nat} {l : List UInt8} {T : TypeId} (hg : w.heap[g]? = some (.cells (brow l) T (0, 0))) (hl : l.length ≤ 1000) : RdE eB w (.slice (some ⟨g, 0, none⟩) l.length l.length) l := by
  refine ⟨_, l.length, rfl, Nat.le_refl _, by unfold maxLen; omega, fun _ => ⟨g, 0, rfl, (Array.getElem?_eq_some_iff.1 hg).1, fun j u hu => ?_⟩⟩
  rw [flat_b] at hu
  rw [Nat.zero_add, cell_of_row _ _ _ _ _ _ hg, ← hu]
  simp [brow, bcs]
/-- the padded key in its block -/
structure PW (w : World) (k : List UInt8) (c : UInt8) (i : Nat) (wr : World) : Prop where
  b : wr.heap[w.heap.size]? = some (.cells (brow (pki k c i)) 116 (0, 0))
  below : Below w.heap.size w wr
theorem PW.next {w wr : World} {k : List UInt8} {c : UInt8} {i : Nat} (h : PW w k c i wr) (hk : k.length ≤ 64) (hi : i < 64) : PW w k c (i + 1) (wr.setCell ⟨w.heap.size, i, none⟩ (.int .u8 (B8 (byteAt k i ^^^ c)))) := by
  rw [setCell_rowC _ _ _ _ _ _ _ h.b, pki_set k c i hk hi]
  exact ⟨setRow_heap _ _ _ _ _ _ h.b, h.below.trans (below_row (Nat.le_refl _))⟩
theorem pki_zero (k : List UInt8) (c : UInt8) : pki k c 0 = lay zb 0 k := by simp [pki]
theorem brow_copy (k : List UInt8) (hk : k.length ≤ 64) : ((brow zb).toList.take 0 ++ bcs (k.take k.length) ++ (brow zb).toList.drop (0 + k.length)).toArray = brow (lay zb 0 k) := by
  unfold brow lay bcs
  simp [zb]
attribute [local irreducible] Calls brow
set_option maxRecDepth 100000 in
set_option maxHeartbeats 2000000 in
theorem padded_c (k : List UInt8) (c : UInt8) (g : Nat) (w : World) (hg : w.cell? ⟨g, 0, none⟩ = some (.string ⟨k.toArray⟩)) (hk : k.length ≤ 64) :
    Calls Tryz.prog 96 #[.int .u8 (B8 c), .pointer (some ⟨g, 0, none⟩)] w fun e w' => e = .returned (.string ⟨(padK k c).toArray⟩) ∧ Below w.heap.size w w' := by
  have hz := zero_b64
  have hlt : g < w.heap.size := by
    unfold World.cell? at hg
    cases hb : w.heap[g]? with
    | none => simp [hb] at hg
    | some o => exact (Array.getElem?_eq_some_iff.1 hb).1
  have hK := Lib.hid hk
  have HB : Hid (Below w.heap.size w (w.alloc (.cells (brow zb) 116))) := Lib.hid ((Below.refl _ _).alloc (Nat.le_refl _) _)
  have HG : Hid ((w.alloc (.cells (brow zb) 116)).heap[w.heap.size]? = some (.cells (brow zb) 116 (0, 0))) := Lib.hid (heap_last _ _ _ rfl)
  have hg2 : (w.alloc (.cells (brow zb) 116)).cell? ⟨g, 0, none⟩ = some (.string ⟨k.toArray⟩) := by rw [HB.out.cell (p := ⟨g, 0, none⟩) hlt]; exact hg
  have hmin : Nat.min k.length 64 = k.length := Nat.min_eq_left hk
  have HM := Lib.hid hmin
  clear hk hmin hg
  go_enter Tryz.func96, Tryz.ntmps96
  go_wp2
  generalize w.alloc (.cells (brow zb) 116) = wa at hg2 HB HG ⊢
  refine tail0 2 (by kernel_rfl) (by kernel_rfl) ?_
  simp only [List.take_succ_cons, List.take_zero, List.drop_succ_cons, List.drop_zero]
  repeat (go_big_quiet_step (fail))
  refine wpQuiet_nil ?_
  rintro _ ⟨n, rfl⟩
  go_wp2_with (refine cp_str rfl (.tmp 6) (.tmp 7) rfl k w.heap.size 0 64 64 k.length rfl rfl (brow zb) 116 HG.out HM.out (by rw [brow_size]; have := hK.out; simp [zb]; omega) ?_; intro wb hgb hob hbb; have H1 : Hid (PW w k c 0 wb) := Lib.hid ⟨by rw [pki_zero, ← brow_copy k hK.out]; exact hgb, HB.out.trans ((below_drewN n (Below.refl _ _)).trans (hbb _ (Nat.le_refl _)))⟩; clear hgb hob hbb)
  go_loopw [9] (fun o wr => ∃ i : Nat, i ≤ 64 ∧ o = .int .i64 i ∧ Hid (PW w k c i wr)) (fun o _ => 64 - (intOf o).toNat)
  case atStart => exact ⟨0, by omega, rfl, H1⟩
  case round =>
    obtain ⟨i, hi, rfl, hpw⟩ := hrel
    by_cases h64 : i < 64
    · have hfz := frozen_of_row _ _ i _ _ hpw.out.b
      have hcell : wr.cell? ⟨w.heap.size, i, none⟩ = some (.int .u8 (B8 (byteAt k i))) := by
        rw [cell_of_row _ _ _ _ _ _ hpw.out.b]
        have h := pki_at k c i hK.out h64
        rw [brow_at _ _ (by rw [pki_len k c i hK.out hi]; exact h64)]
        unfold byteAt at h ⊢
        rw [List.getD_eq_getElem?_getD, h]
        rfl
      go_wp2
      go_roundw
      case rel => exact ⟨i + 1, h64, by go_num, Lib.hid (hpw.out.next hK.out h64)⟩
      case measure => simp [intOf]; omega
    · have h64' : i = 64 := by omega
      subst h64'
      have hb : Hid (wr.heap[w.heap.size]? = some (.cells (brow (padK k c)) 116 (0, 0))) := Lib.hid (by rw [← pki_all k c hK.out]; exact hpw.out.b)
      have hcv : (convert 50 9 (.slice (some ⟨w.heap.size, 0, none⟩) 64 64)).run Tryz.prog wr = .ok (.string ⟨(padK k c).toArray⟩) wr := by
        have h := conv_e (row_rd hb.out (by rw [padK_len]; omega))
        rw [padK_len] at h
        exact h
      clear h64 hi
      go_wp2
      go_ret
      exact ⟨rfl, hpw.out.below⟩
end Go.Proofs.YtbpjdfnnlmblaaaGreatDoor
/- A region that draws its order and makes memory: what each operation of its head gives is told by a predicate that later growth leaves true; each operation is walked once, whatever the order is; the tail comes last. -/
namespace Go.Proofs.YtbpjdfnnlmblaaaGreatDoor
open Go.RowKit
set_option linter.unusedSimpArgs false
set_option linter.unusedVariables false
/-- what an operation gives: a value outright, or one of which a predicate holds that growth leaves true -/
inductive SP where
  | eq (c : Value)
  | pred (q : Value → World → Prop) (st : ∀ v w w', Below w.heap.size w w' → q v w → q v w')
def SP.p : SP → Value → World → Prop
  | .eq c, v, _ => v = c
  | .pred q _, v, w => q v w
theorem SP.keep (R : SP) {v : Value} {w w' : World} (hb : Below w.heap.size w w') (h : R.p v w) : R.p v w' := by
  cases R with
  | eq c => exact h
  | pred q st => exact st v w w' hb h
def SP.any : SP := .pred (fun _ _ => True) (fun _ _ _ _ h => h)
/-- a pointer to a block of this content, made here -/
def SP.fresh (B : Nat) (cs : Array Value) (T : TypeId) : SP :=
  .pred (fun v w => ∃ g : Nat, v = .pointer (some ⟨g, 0, none⟩) ∧ B ≤ g ∧ w.heap[g]? = some (.cells cs T (0, 0)))
    (fun v w w' hb ⟨g, e, h1, h2⟩ => ⟨g, e, h1, by rw [hb.block _ (Array.getElem?_eq_some_iff.1 h2).1]; exact h2⟩)
def SP.of (l : List SP) (i : Nat) : SP := l.getD i SP.any
def upd (vals : Nat → Value) (i : Nat) (v : Value) : Nat → Value := fun j => if j = i then v else vals j
theorem upd_self {vals : Nat → Value} {i : Nat} {v : Value} (h : vals i = v) : upd vals i v = vals := by
  funext j
  unfold upd
  split
  · rename_i e; rw [e, h]
  · rfl
def putAll (a : Act) (vals : Nat → Value) : Nat → List Oper → Act
  | _, [] => a
  | i, o :: rest => (putAll a vals (i + 1) rest).put o.dst (vals i)
/-- a statement on the values, those in the list as the predicates say -/
def given (R : Nat → SP) (w : World) (body : (Nat → Value) → Prop) : List Nat → (Nat → Value) → Prop
  | [], vals => body vals
  | j :: l, vals => match R j with
    | .eq c => given R w body l (upd vals j c)
    | .pred q _ => ∀ x, q x w → given R w body l (upd vals j x)
theorem given_use {R : Nat → SP} {w : World} {body : (Nat → Value) → Prop} {vals : Nat → Value} : ∀ (l : List Nat), given R w body l vals → (∀ j ∈ l, (R j).p (vals j) w) → body vals
  | [], h, _ => h
  | j :: l, h, hp => by
    have h1 := hp j (List.mem_cons_self ..)
    unfold given at h
    cases hr : R j with
    | eq c =>
      rw [hr] at h h1
      have e := upd_self (vals := vals) (i := j) (v := c) h1
      simp only [e] at h
      exact given_use l h (fun k hk => hp k (List.mem_cons_of_mem _ hk))
    | pred q st =>
      rw [hr] at h h1
      have h2 := h (vals j) h1
      rw [upd_self rfl] at h2
      exact given_use l h2 (fun k hk => hp k (List.mem_cons_of_mem _ hk))
def depsOf (o : Oper) : List Nat := ((o.after.toList.filter (Region.binds .any)).map (·.on)).eraseDups
theorem mem_depsOf {o : Oper} {j : Nat} : j ∈ depsOf o ↔ ∃ e ∈ o.after, Region.binds .any e = true ∧ e.on = j := by
  simp [depsOf, and_assoc]
/-- what is to be shown at the end of an operation -/
def RelEnd (F : (Nat → Value) → Act) (R : SP) (dst : Option Tmp) (vals : Nat → Value) (w : World) (Q : Exit → Act → World → Prop) : Prop :=
  ∀ v w', Below w.heap.size w w' → R.p v w' → Q .normal ((F vals).put dst v) w'
theorem relEnd_fin {F : (Nat → Value) → Act} {R : SP} {dst : Option Tmp} {vals : Nat → Value} {w : World} {Q : Exit → Act → World → Prop} (h : Hid (RelEnd F R dst vals w Q)) (v : Value) {w' : World} {a : Act} (ha : a = (F vals).put dst v) (hb : Below w.heap.size w w') (hr : R.p v w') : Q .normal a w' := by
  rw [ha]; exact h.out v w' hb hr
def relObs (P : Program) (ops : Array Oper) (B : Nat) (w0 : World) (F : (Nat → Value) → Act) (R : Nat → SP) (ds : List (List Nat)) : Nat → List Oper → Prop
  | _, [] => True
  | i, o :: rest => (∀ (w : World), Below B w0 w → ∀ vals : Nat → Value, given R w (fun vals => ∀ Q : Exit → Act → World → Prop, Hid (RelEnd F (R i) o.dst vals w Q) → wpList P ops Q [o] (F vals) w) (ds.getD i []) vals) ∧ relObs P ops B w0 F R ds (i + 1) rest
def relPut (F : (Nat → Value) → Act) : Nat → List Oper → Prop
  | _, [] => True
  | i, o :: rest => (∀ vals v, (F vals).put o.dst v = F (upd vals i v)) ∧ relPut F (i + 1) rest
theorem relObs_at {P : Program} {ops : Array Oper} {B : Nat} {w0 : World} {F : (Nat → Value) → Act} {R : Nat → SP} {ds : List (List Nat)} : ∀ (l : List Oper) (k : Nat), relObs P ops B w0 F R ds k l → ∀ i o, l[i]? = some o →
    ∀ (w : World), Below B w0 w → ∀ (vals : Nat → Value), given R w (fun vals => ∀ Q : Exit → Act → World → Prop, Hid (RelEnd F (R (k + i)) o.dst vals w Q) → wpList P ops Q [o] (F vals) w) (ds.getD (k + i) []) vals
  | [], _, _, _, _, h => by cases h
  | o :: l, k, h, 0, o', ho => by cases ho; exact h.1
  | o :: l, k, h, i + 1, o', ho => by
    have := relObs_at l (k + 1) h.2 i o' ho
    rwa [show k + 1 + i = k + (i + 1) by omega] at this
theorem relPut_at {F : (Nat → Value) → Act} : ∀ (l : List Oper) (k : Nat), relPut F k l → ∀ i o, l[i]? = some o → ∀ vals v, (F vals).put o.dst v = F (upd vals (k + i) v)
  | [], _, _, _, _, h => by cases h
  | o :: l, k, h, 0, o', ho => by cases ho; exact h.1
  | o :: l, k, h, i + 1, o', ho => by
    have := relPut_at l (k + 1) h.2 i o' ho
    rwa [show k + 1 + i = k + (i + 1) by omega] at this
theorem wpOp_of_list {P : Program} {ops : Array Oper} {Q : Exit → Act → World → Prop} {i : Nat} {o : Oper} (ho : ops[i]? = some o) {K : Act → World → Prop} {a : Act} {w : World} (h : wpList P ops (Exit.then K Q) [o] a w) : wpOp P ops Q i K a w := by
  unfold wpOp
  simp only [ho]
  unfold wpList at h
  split
  · rename_i hw
    rw [if_pos hw] at h
    rcases h with h | ⟨h1, a', w', h2⟩
    · refine .inl ?_
      unfold Oper.wp at h ⊢
      generalize (execOp a.eval o).run P w = r at h ⊢
      cases r with
      | ok n w' =>
        cases n with
        | value v => exact h
        | skip => exact h
        | defer d => exact h
        | enter f args =>
          refine Calls.mono h ?_
          intro e w'' he
          cases e with
          | returned v => exact he
          | panicked c => exact he
          | outgrown => obtain ⟨a2, w2, h2⟩ := he; exact ⟨a2, w2, h2⟩
        | row row args => exact Rows.mono h (fun _ _ he => he)
        | _ => exact h
      | halt x w' =>
        cases x with
        | panic u => exact h
        | _ => exact h
    · exact .inr ⟨h1, a', w', h2⟩
  · rename_i hw
    rw [if_neg hw] at h
    exact h
/-- all of the head done, none of the tail -/
def headDone (n g : Nat) : Array Bool := (List.replicate n true ++ List.replicate g false).toArray
def relB (ops : Array Oper) (n : Nat) (ds : List (List Nat)) : Bool :=
  decide (n ≤ ops.size) && Region.sinkB .any ops n && Region.chainB .any ops n && Region.seqB .any ops (ops.size - n) n (headDone n (ops.size - n)) && (List.range n).all (fun i => ((ops[i]?).map (fun o => (depsOf o).all (fun j => decide (j < i)) && (ds.getD i []).all (fun j => (depsOf o).contains j))).getD false)
theorem least_undone (m : Array Bool) (n : Nat) (hm : n ≤ m.size) : (∀ i, i < n → m.getD i false = true) ∨ ∃ i, i < n ∧ m.getD i false = false ∧ ∀ j, j < i → m.getD j false = true := by
  induction n with
  | zero => exact .inl (fun i hi => absurd hi (Nat.not_lt_zero _))
  | succ n ih =>
    rcases ih (by omega) with h | ⟨i, hi, h1, h2⟩
    · cases hq : m.getD n false with
      | true => exact .inl (fun i hi => by rcases Nat.lt_or_ge i n with h' | h'; exact h i h'; rwa [show i = n by omega])
      | false => exact .inr ⟨n, Nat.lt_succ_self n, hq, fun j hj => h j hj⟩
    · exact .inr ⟨i, by omega, h1, h2⟩
/-- how many are not done -/
def undone (m : Array Bool) (n : Nat) : Nat := ((List.range n).filter (fun i => !m.getD i false)).length
theorem filter_set (m : Array Bool) (i : Nat) (hi : i < m.size) (hu : m.getD i false = false) (l : List Nat) (hl : l.Nodup) (hmem : i ∈ l) :
    (l.filter (fun j => !(m.setIfInBounds i true).getD j false)).length + 1 = (l.filter (fun j => !m.getD j false)).length := by
  induction l with
  | nil => cases hmem
  | cons x l ih =>
    have hx := List.nodup_cons.1 hl
    by_cases hxi : x = i
    · subst hxi
      have h1 : (m.setIfInBounds x true).getD x false = true := by simp [hi]
      have h2 : ∀ j ∈ l, (!(m.setIfInBounds x true).getD j false) = (!m.getD j false) := fun j hj => by rw [getD_set_ne false (fun e : x = j => hx.1 (by rw [e]; exact hj))]
      rw [List.filter_cons, List.filter_cons, h1, hu, List.filter_congr h2]
      simp
    · have h1 : (m.setIfInBounds i true).getD x false = m.getD x false := getD_set_ne false (fun e => hxi e.symm)
      have hm' : i ∈ l := by rcases List.mem_cons.1 hmem with h | h; exact absurd h.symm hxi; exact h
      have := ih hx.2 hm'
      rw [List.filter_cons, List.filter_cons, h1]
      split <;> simp_all <;> omega
theorem undone_set (m : Array Bool) (n i : Nat) (hin : i < n) (hi : i < m.size) (hu : m.getD i false = false) : undone (m.setIfInBounds i true) n + 1 = undone m n :=
  filter_set m i hi hu _ List.nodup_range (List.mem_range.2 hin)
theorem undone_zero {m : Array Bool} {n : Nat} (h : undone m n = 0) : ∀ i, i < n → m.getD i false = true := by
  intro i hi
  have h1 : (List.range n).filter (fun i => !m.getD i false) = [] := List.length_eq_zero_iff.1 h
  have := (List.filter_eq_nil_iff.1 h1) i (List.mem_range.2 hi)
  simpa using this
theorem undone_pos {m : Array Bool} {n i : Nat} (hi : i < n) (h : m.getD i false = false) : 0 < undone m n := by
  unfold undone
  refine List.length_pos_of_mem (a := i) (List.mem_filter.2 ⟨List.mem_range.2 hi, by simp [h]⟩)
theorem rel_sound {P : Program} {Q : Exit → Act → World → Prop} {l : List Oper} {n B : Nat} {w0 : World} {F : (Nat → Value) → Act} {R : Nat → SP} {ds : List (List Nat)} (hB : relB l.toArray n ds = true)
    (hput : relPut F 0 (l.take n)) (hobs : relObs P l.toArray B w0 F R ds 0 (l.take n)) (hfin : ∀ w, Below B w0 w → ∀ vals, given R w (fun vals => wpList P l.toArray Q (l.drop n) (F vals) w) (List.range n) vals) (hB0 : B ≤ w0.heap.size)
    (f : Nat) : ∀ (m : Array Bool) (vals : Nat → Value) (w : World), HeadInv .any l.toArray n m → undone m n = f → Below B w0 w → (∀ i, i < n → m.getD i false = true → (R i).p (vals i) w) →
      wpAny P .any l.toArray Q (f + (l.length - n)) m (F vals) w := by
  simp only [relB, Bool.and_eq_true, decide_eq_true_eq] at hB
  obtain ⟨⟨⟨⟨hn, hs⟩, hc⟩, hseq⟩, hdep⟩ := hB
  have hnl : n ≤ l.length := by simpa using hn
  induction f with
  | zero =>
    intro m vals w inv hu hb hR
    have hall := undone_zero hu
    have hm : m = headDone n (l.length - n) := by
      apply Array.ext_getElem?
      intro i
      have hsz : m.size = l.length := by simpa using inv.size
      unfold headDone
      simp only [List.getElem?_toArray]
      by_cases hi : i < n
      · have h1 := hall i hi
        rw [List.getElem?_append_left (by simpa using hi), List.getElem?_replicate, if_pos hi]
        have hi2 : i < m.size := by omega
        simp [hi2] at h1
        rw [Array.getElem?_eq_getElem hi2, h1]
      · by_cases hi2 : i < l.length
        · have h1 := inv.tail i (by omega) (by simpa using hi2)
          rw [List.getElem?_append_right (by simp; omega), List.getElem?_replicate, if_pos (by simp; omega)]
          have hi3 : i < m.size := by omega
          simp [hi3] at h1
          rw [Array.getElem?_eq_getElem hi3, h1]
        · rw [List.getElem?_append_right (by simp; omega), List.getElem?_replicate, if_neg (by simp; omega), Array.getElem?_eq_none (by omega)]
    have hd : (l.drop n).length = l.length - n := by simp
    have := wpAny_of_seq (md := .any) (P := P) (Q' := Q) (ops := l.toArray) (l.drop n) n m (F vals) w (fun j => by simp [List.getElem?_drop]) (by rw [hd, hm]; simpa using hseq)
      (given_use _ (hfin w hb vals) (fun j hj => hR j (List.mem_range.1 hj) (hall j (List.mem_range.1 hj))))
    rw [Nat.zero_add]
    rwa [hd] at this
  | succ f ih =>
    intro m vals w inv hu hb hR
    have hsz : m.size = l.length := by simpa using inv.size
    obtain ⟨i0, hi0, hun0, hdone0⟩ : ∃ i, i < n ∧ m.getD i false = false ∧ ∀ j, j < i → m.getD j false = true := by
      rcases least_undone m n (by omega) with h | h
      · have : undone m n = 0 := by
          unfold undone
          rw [List.length_eq_zero_iff, List.filter_eq_nil_iff]
          intro a ha
          rw [h a (List.mem_range.1 ha)]
          simp
        omega
      · exact h
    have hready0 : i0 ∈ Region.ready .any l.toArray m := by
      rw [mem_ready]
      have hlt : i0 < l.length := by omega
      refine ⟨getD_in (by omega) hun0, l[i0], by simp [hlt], fun e he hbn => ?_⟩
      have h1 := List.all_eq_true.1 hdep i0 (List.mem_range.2 hi0)
      simp only [List.getElem?_toArray, List.getElem?_eq_getElem hlt, Option.map_some, Option.getD_some, Bool.and_eq_true] at h1
      exact hdone0 _ (of_decide_eq_true (List.all_eq_true.1 h1.1 _ (mem_depsOf.2 ⟨e, he, hbn, rfl⟩)))
    have hne : Region.ready .any l.toArray m ≠ [] := List.ne_nil_of_mem hready0
    rw [show f + 1 + (l.length - n) = (f + (l.length - n)) + 1 by omega]
    refine ⟨fun h0 => absurd h0 hne, fun i hi => ?_⟩
    have hin : i < n := by
      rcases Nat.lt_or_ge i n with h | h
      · exact h
      · obtain ⟨_, oi, hoi, _⟩ := mem_ready.1 hi
        have hil : i < l.length := by have := (Array.getElem?_eq_some_iff.1 hoi).1; simpa using this
        exact absurd hi (tail_waits hs hc (by simp; omega) inv _ i0 rfl hi0 (getD_in (by omega) hun0) i h)
    obtain ⟨hund, oi, hoi, hdeps⟩ := mem_ready.1 hi
    have hoi2 : (l.take n)[i]? = some oi := by rw [List.getElem?_take, if_pos hin]; simpa using hoi
    have hui : m.getD i false = false := getD_both hund
    have hob := given_use _ (relObs_at (l.take n) 0 hobs i oi hoi2 w hb vals) (fun j hj => by
      have h1 := List.all_eq_true.1 hdep i (List.mem_range.2 hin)
      have hil : i < l.length := by omega
      have hoi3 : l[i]? = some oi := by simpa using hoi
      simp only [List.getElem?_toArray, hoi3, Option.map_some, Option.getD_some, Bool.and_eq_true] at h1
      rw [Nat.zero_add] at hj
      have hjd := List.contains_iff_mem.1 (List.all_eq_true.1 h1.2 j hj)
      obtain ⟨e, he, hbn, rfl⟩ := mem_depsOf.1 hjd
      have hlt := of_decide_eq_true (List.all_eq_true.1 h1.1 _ hjd)
      exact hR _ (by omega) (hdeps e he hbn))
    refine wpOp_of_list hoi (hob _ (Lib.hid ?_))
    intro v w' hb' hr
    show wpAny P .any l.toArray Q (f + (l.length - n)) (m.setIfInBounds i true) _ w'
    have hpu := relPut_at (l.take n) 0 hput i oi hoi2 vals v
    rw [hpu, Nat.zero_add]
    rw [Nat.zero_add] at hr
    have hus := undone_set m n i hin (by omega) hui
    refine ih _ _ _ (inv.set hi hin) (by omega) (hb.trans (hb'.mono (by have := hb.size; omega))) ?_
    intro j hj hjd
    unfold upd
    by_cases hji : j = i
    · subst hji
      rw [if_pos rfl]
      exact hr
    · rw [if_neg hji]
      rw [getD_set_ne false (fun e => hji e.symm)] at hjd
      exact (R j).keep hb' (hR j hj hjd)
theorem region_rel {P : Program} {id : Nat} {Q : Exit → Act → World → Prop} {a : Act} {w : World} {l : List Oper} (n : Nat) (ds : List (List Nat)) (R : Nat → SP) (vals0 : Nat → Value) (hm : P.follows .mixedOrders = true) (hB : relB l.toArray n ds = true)
    (ha : a = putAll a vals0 0 (l.take n)) (hput : relPut (fun vals => putAll a vals 0 (l.take n)) 0 (l.take n))
    (hobs : relObs P l.toArray w.heap.size w (fun vals => putAll a vals 0 (l.take n)) R ds 0 (l.take n))
    (hfin : ∀ w', Below w.heap.size w w' → ∀ vals, given R w' (fun vals => wpList P l.toArray Q (l.drop n) (putAll a vals 0 (l.take n)) w') (List.range n) vals) : (Code.region id l.toArray true).wp P Q a w := by
  refine wp_region_any hm ?_
  have hn : n ≤ l.length := by
    have h := hB
    simp only [relB, Bool.and_eq_true, decide_eq_true_eq] at h
    simpa using h.1.1.1.1
  have inv : HeadInv .any l.toArray n (Array.replicate l.toArray.size false) :=
    ⟨by simp, fun j oj _ hl => absurd hl (by rw [getD_replicate_false]; exact Bool.false_ne_true), fun t _ h2 => getD_in (by simpa using h2) (getD_replicate_false _ _)⟩
  have hu : undone (Array.replicate l.toArray.size false) n = n := by
    unfold undone
    rw [List.filter_eq_self.2 (fun i _ => by rw [getD_replicate_false]; rfl), List.length_range]
  have := rel_sound (P := P) (Q := Q) (w0 := w) (R := R) hB hput hobs hfin (Nat.le_refl _) n _ vals0 w.drew inv hu ((Below.refl _ _).drew) (fun i _ h => by rw [getD_replicate_false] at h; cases h)
  rw [show n + (l.length - n) = l.toArray.size by simp; omega] at this
  rw [ha]
  exact this
end Go.Proofs.YtbpjdfnnlmblaaaGreatDoor
/- The authentication code of a text. -/
namespace Go.Proofs.YtbpjdfnnlmblaaaGreatDoor
open Go.RowKit
set_option linter.unusedSimpArgs false
set_option linter.unusedVariables false
theorem conv_sb (w : World) (l : List UInt8) : (convert 9 50 (.string ⟨l.toArray⟩)).run Tryz.prog w = .ok (.slice (some ⟨w.heap.size, 0, none⟩) l.length (grownCap w l.length 0 5)) (Lib.bytesWorld w 5 ⟨l.toArray⟩) :=
  Lib.run_convert_string_bytes w _ _ _ _ Tryz.underlying9 Tryz.underlying50 Tryz.underlying5
theorem sb_below (w : World) (l : List UInt8) : Below w.heap.size w (Lib.bytesWorld w 5 ⟨l.toArray⟩) :=
  ⟨rfl, rfl, rfl, by rw [Lib.bytesWorld_size]; omega, fun k hk => Lib.bytesWorld_at_old _ _ _ _ hk⟩
theorem sb_rd (w : World) (l : List UInt8) (hl : l.length ≤ maxLen) : RdE eB (Lib.bytesWorld w 5 ⟨l.toArray⟩) (.slice (some ⟨w.heap.size, 0, none⟩) l.length (grownCap w l.length 0 5)) l := by
  refine ⟨_, _, rfl, grownCap_ge _ _ _ _, grownCap_le_maxLen _ _ _ _ hl, fun _ => ⟨w.heap.size, 0, rfl, by rw [Lib.bytesWorld_size]; omega, fun j u hu => ?_⟩⟩
  rw [flat_b] at hu
  have hj : j < l.length := by have := (List.getElem?_eq_some_iff.1 hu).1; rwa [bcs_len] at this
  rw [Nat.zero_add, Lib.bytesWorld_cell _ _ _ _ hj, ← hu]
  simp [bcs, B8, hj]
/-- the boxed key, cut to its hash if it is long -/
structure MW (w : World) (k : List UInt8) (wr : World) : Prop where
  c : wr.cell? ⟨w.heap.size, 0, none⟩ = some (.string ⟨(shortK k).toArray⟩)
  k : KAt wr
  below : Below w.heap.size w wr
theorem MW.later {w wr : World} {k : List UInt8} (h : MW w k wr) (hl : w.heap.size < wr.heap.size) (u : Later wr) : MW w k u.now :=
  ⟨by rw [u.below.cell (p := ⟨w.heap.size, 0, none⟩) hl]; exact h.c, h.k.later u, h.below.trans (u.below.mono h.below.size)⟩
theorem MW.lt {w wr : World} {k : List UInt8} (h : MW w k wr) : w.heap.size < wr.heap.size := by
  have hc := h.c
  unfold World.cell? at hc
  cases hb : wr.heap[w.heap.size]? with
  | none => simp [hb] at hc
  | some o => exact (Array.getElem?_eq_some_iff.1 hb).1
theorem MW.on {w wr w' : World} {k : List UInt8} (h : MW w k wr) (hb : Below wr.heap.size wr w') : MW w k w' := h.later h.lt ⟨w', hb⟩
theorem mw_set {w we : World} {k l : List UInt8} {x : Value} (hs : shortK k = l) (he : we.heap[w.heap.size]? = some (.cells #[x] 9 (0, 0))) (hk : KAt we) (hb : Below w.heap.size w we) : MW w k (we.setCell ⟨w.heap.size, 0, none⟩ (.string ⟨l.toArray⟩)) := by
  have h1 : (1 : Nat) ≠ w.heap.size := by
    intro e
    have h := hk
    unfold KAt at h
    obtain ⟨t, h⟩ := h
    rw [e, he] at h
    simp only [Option.some.injEq, Obj.cells.injEq] at h
    have hsz := congrArg Array.size h.1
    rw [row_size, KK_len] at hsz
    simp at hsz
  rw [setCell_rowC _ _ _ _ _ _ _ he]
  exact ⟨by rw [cell_of_row _ _ _ _ _ _ (setRow_heap _ _ _ _ _ _ he), hs]; rfl, by unfold KAt; rw [setRow_else _ _ _ _ h1]; exact hk, hb.trans (below_row (Nat.le_refl _))⟩
attribute [local irreducible] Calls brow stv sha
set_option maxRecDepth 100000 in
set_option maxHeartbeats 2000000 in
theorem mac_c (k t : List UInt8) (w : World) (hk : KAt w) (hl : k.length ≤ 1000000000) (ht : t.length ≤ 1000000000) :
    Calls Tryz.prog 62 #[.string ⟨k.toArray⟩, .string ⟨t.toArray⟩] w fun e w' => e = .returned (.string ⟨(mac k t).toArray⟩) ∧ Below w.heap.size w w' := by
  have hz := zero_32
  have hmf : ∀ (fn : Fn) (first cap : Array Value) (w : World), (Instr.makeFunc fn first cap).run Tryz.prog w = .ok (.func fn first cap) w := fun _ _ _ _ => rfl
  have HL := Lib.hid hl
  have HT := Lib.hid ht
  have HA : Hid ((w.alloc (.cells #[.string ⟨k.toArray⟩] 9)).heap[w.heap.size]? = some (.cells #[.string ⟨k.toArray⟩] 9 (0, 0))) := Lib.hid (heap_last _ _ _ rfl)
  have hca : (w.alloc (.cells #[.string ⟨k.toArray⟩] 9)).cell? ⟨w.heap.size, 0, none⟩ = some (.string ⟨k.toArray⟩) := cell_of_row _ _ _ _ _ _ HA.out
  have HKA : Hid (KAt (w.alloc (.cells #[.string ⟨k.toArray⟩] 9))) := Lib.hid (hk.alloc _)
  have HBA : Hid (Below w.heap.size w (w.alloc (.cells #[.string ⟨k.toArray⟩] 9))) := Lib.hid ((Below.refl _ _).alloc (Nat.le_refl _) _)
  clear hl ht hk
  go_enter Tryz.func62, Tryz.ntmps62
  go_upto_region 1 with fail
  generalize w.alloc (.cells #[.string ⟨k.toArray⟩] 9) = wa at HA hca HKA HBA ⊢
  go_upto_if 11 with fail
  go_cut [5, 11] from 12 to 16 (fun _ _ wc => Hid (MW w k wc))
  case first =>
    by_cases h64 : k.length ≤ 64
    · have i1 : ¬ (64 : Int) < k.length := by omega
      have hs : shortK k = k := by unfold shortK; rw [if_pos h64]
      go_wp2
      all_goals go_meet
      case rel => exact Lib.hid ⟨by rw [hs]; exact hca, HKA.out, HBA.out⟩
    · have i1 : (64 : Int) < k.length := by omega
      have HS : Hid (shortK k = sha k) := Lib.hid (by unfold shortK; rw [if_neg h64])
      have hcv := conv_sb wa k
      have HSB := Lib.hid (sb_below wa k)
      have HRD := Lib.hid (sb_rd wa k (by have := HL.out; unfold maxLen; omega))
      generalize Lib.bytesWorld wa 5 ⟨k.toArray⟩ = ws at hcv HSB HRD
      go_wp2_with (first
        | (go_at_call 95; refine (hsum_c _ k _ HRD.out (HKA.out.on HSB.out) (by have := HL.out; omega)).mono ?_; rintro e w1 ⟨rfl, hb1⟩; have HB1 := Lib.hid ((HSB.out).trans (hb1.mono HSB.out.size)); clear hb1)
        | (refine st_T (T := 114) (brow (sha k)) (size32 _ (sha_len k)) rfl (.tmp 5) (.tmp 14) rfl w1.heap.size (brow z32) rfl rfl (brow_one _) (by rw [brow_size, brow_size, sha_len]; rfl) (heap_last _ _ _ rfl) ?_; intro we hge hoe hbe; have HB2 : Hid (Below wa.heap.size wa we) := (Lib.hid (HB1.out.trans ((((Below.refl _ _).alloc (Nat.le_refl _) _).trans (hbe _ (Nat.le_refl _))).mono HB1.out.size))); have hcv2 := conv_e (row_rd hge (by rw [sha_len]; omega)); rw [sha_len] at hcv2; have HE : Hid (we.heap[w.heap.size]? = some (.cells #[.string ⟨k.toArray⟩] 9 (0, 0))) := (Lib.hid (by rw [HB2.out.block _ (Array.getElem?_eq_some_iff.1 HA.out).1]; exact HA.out)); have hce := cell_of_row _ _ 0 _ _ _ HE.out; have hfe := frozen_of_row _ _ 0 _ _ HE.out; clear hge hoe hbe))
      go_meet
      case rel => exact Lib.hid (mw_set HS.out HE.out (HKA.out.on HB2.out) (HBA.out.trans (HB2.out.mono HBA.out.size)))
  case rest =>
    have hcc := hcut.out.c
    have HPL : Hid ((shortK k).length ≤ 64) := Lib.hid (by unfold shortK; split; assumption; rw [sha_len]; omega)
    have HPI : Hid (padK (shortK k) 54 ++ t = padK (shortK k) 54 ++ t) := Lib.hid rfl
    clear hca
    go_upto_region 6 with (first
      | (go_at_call 97; refine (begin_s _).mono ?_; rintro e w1 ⟨rfl, hb1⟩; have H1 := Lib.hid (hcut.out.on hb1); clear hb1)
      | (go_at_call 96; refine (padded_c (shortK k) 54 w.heap.size _ H1.out.c HPL.out).mono ?_; rintro e w2 ⟨rfl, hb2⟩; have H2 := Lib.hid (H1.out.on hb2); clear hb2)
      | (go_at_call 98; refine (add_s [] (padK (shortK k) 54) _ H2.out.k (by rw [padK_len]; decide)).mono ?_; rintro e w3 ⟨rfl, hb3⟩; have H3 := Lib.hid (H2.out.on hb3); clear hb3; rw [List.nil_append])
      | (go_at_call 98; refine (add_s (padK (shortK k) 54) t _ H3.out.k (by rw [padK_len]; have := HT.out; omega)).mono ?_; rintro e w4 ⟨rfl, hb4⟩; have H4 := Lib.hid (H3.out.on hb4); clear hb4)
      | (go_at_call 99; refine (sum_s (padK (shortK k) 54 ++ t) _ H4.out.k (by rw [List.length_append, padK_len]; have := HT.out; omega)).mono ?_; rintro e w5 ⟨rfl, hb5⟩; have H5 := Lib.hid (H4.out.on hb5); clear hb5; generalize hinn : sha (padK (shortK k) 54 ++ t) = inn; have HIN := Lib.hid hinn; have HIL : Hid (inn.length = 32) := (Lib.hid (by rw [← hinn]; exact sha_len _)); clear hinn)
      | (refine st_T (T := 114) (brow inn) (size32 _ HIL.out) rfl (.tmp 7) (.tmp 24) rfl w5.heap.size (brow z32) rfl rfl (brow_one _) (by rw [brow_size, brow_size, HIL.out]; rfl) (heap_last _ _ _ rfl) ?_; intro w6 hg6 ho6 hb6; have H6 := Lib.hid (H5.out.on (((Below.refl _ _).alloc (Nat.le_refl _) _).trans (hb6 _ (Nat.le_refl _)))); have HG6 := Lib.hid hg6; clear hg6 ho6 hb6))
    have HPL2 : Hid ((padK (shortK k) 92).length = 64) := Lib.hid (padK_len _ _)
    try dsimp only [Act.put]
    refine region_rel 9 [[], [], [0, 1], [0, 2], [], [4], [3, 5], [6], []] (SP.of [.eq (stv []), .eq (.func (.func 96) #[] #[.pointer (some ⟨w.heap.size, 0, none⟩)]), .eq (.string ⟨(padK (shortK k) 92).toArray⟩), .eq (stv (padK (shortK k) 92)), .eq (.slice (some ⟨w5.heap.size, 0, none⟩) 32 32), .eq (.string ⟨inn.toArray⟩), .eq (stv (padK (shortK k) 92 ++ inn)), .eq (.agg (brow (sha (padK (shortK k) 92 ++ inn)))), .fresh w.heap.size (brow z32) 114]) (fun _ => undef) ?h1 ?h2 ?h3 ?h4 ?h5 ?h6
    case h1 => kernel_rfl
    case h2 => kernel_rfl
    case h3 => kernel_rfl
    case h4 =>
      simp only [List.take_succ_cons, List.take_zero]
      repeat (first | exact trivial | refine ⟨fun vals v => by kernel_rfl, ?_⟩)
    case h5 =>
      simp only [List.take_succ_cons, List.take_zero]
      refine ⟨?_, ?_, ?_, ?_, ?_, ?_, ?_, ?_, ?_, trivial⟩
      all_goals (intro wq hbq vals; simp only [given, SP.of, Nat.reduceAdd, Nat.zero_add, List.getD_cons_succ, List.getD_cons_zero]; intro Q hQ; simp only [putAll, upd, Act.put, List.setIfInBounds_toArray, List.set_cons_zero, List.set_cons_succ, Nat.reduceAdd, Nat.zero_add, Nat.reduceEqDiff, if_true, if_false, reduceIte]; have HM := Lib.hid (H6.out.on hbq); have HBQ := Lib.hid hbq; clear hbq)
      · go_wp2_with (go_at_call 97; refine (begin_s _).mono ?_; rintro e x1 ⟨rfl, hx1⟩)
        exact relEnd_fin hQ _ (by kernel_rfl) hx1 rfl
      · go_wp2
        exact relEnd_fin hQ _ (by kernel_rfl) (Below.refl _ _) rfl
      · go_wp2_with (go_at_call 96; refine (padded_c (shortK k) 92 w.heap.size _ HM.out.c HPL.out).mono ?_; rintro e x1 ⟨rfl, hx1⟩)
        exact relEnd_fin hQ _ (by kernel_rfl) hx1 rfl
      · go_wp2_with (go_at_call 98; refine (add_s [] (padK (shortK k) 92) _ HM.out.k (by rw [padK_len]; decide)).mono ?_; rintro e x1 ⟨rfl, hx1⟩)
        exact relEnd_fin hQ _ (by kernel_rfl) hx1 rfl
      · go_wp2
        exact relEnd_fin hQ _ (by kernel_rfl) (Below.refl _ _) rfl
      · have hcv := conv_e (row_rd (w := wq) (g := w5.heap.size) (l := inn) (T := 114) (by rw [HBQ.out.block _ (Array.getElem?_eq_some_iff.1 HG6.out).1]; exact HG6.out) (by rw [HIL.out]; omega))
        rw [HIL.out] at hcv
        go_wp2
        exact relEnd_fin hQ _ (by kernel_rfl) (Below.refl _ _) rfl
      · go_wp2_with (go_at_call 98; refine (add_s (padK (shortK k) 92) inn _ HM.out.k (by rw [padK_len, HIL.out]; decide)).mono ?_; rintro e x1 ⟨rfl, hx1⟩)
        exact relEnd_fin hQ _ (by kernel_rfl) hx1 rfl
      · go_wp2_with (go_at_call 99; refine (sum_s (padK (shortK k) 92 ++ inn) _ HM.out.k (by rw [List.length_append, padK_len, HIL.out]; decide)).mono ?_; rintro e x1 ⟨rfl, hx1⟩)
        exact relEnd_fin hQ _ (by kernel_rfl) hx1 rfl
      · go_wp2
        exact relEnd_fin hQ _ (by kernel_rfl) ((Below.refl _ _).alloc (Nat.le_refl _) _) ⟨wq.heap.size, rfl, HM.out.below.size, heap_last _ _ _ rfl⟩
    case h6 =>
      intro wq hbq vals
      show given _ _ _ [0, 1, 2, 3, 4, 5, 6, 7, 8] _
      simp only [given, SP.of, SP.fresh, List.getD_cons_succ, List.getD_cons_zero]
      rintro _ ⟨g, rfl, hg1, hg2⟩
      simp only [List.take_succ_cons, List.take_zero, List.drop_succ_cons, List.drop_zero]
      simp only [putAll, upd, Act.put, List.setIfInBounds_toArray, List.set_cons_zero, List.set_cons_succ, Nat.reduceAdd, Nat.zero_add, Nat.reduceEqDiff, if_true, if_false, reduceIte]
      have HM := Lib.hid (H6.out.on hbq)
      have HG1 := Lib.hid hg1
      have HG2 := Lib.hid hg2
      clear hbq hg1 hg2
      have HMC : Hid (sha (padK (shortK k) 92 ++ inn) = mac k t) := Lib.hid (by rw [← HIN.out]; rfl)
      rw [HMC.out]
      have HML : Hid ((mac k t).length = 32) := Lib.hid (mac_len k t)
      generalize mac k t = mk at HMC HML ⊢
      have HME : Hid (mac k t = mk) := Lib.hid (by rw [← HMC.out, ← HIN.out]; rfl)
      go_wp2_with (refine st_T (T := 114) (brow mk) (size32 _ HML.out) rfl (.tmp 8) (.tmp 32) rfl g (brow z32) rfl rfl (brow_one _) (by rw [brow_size, brow_size, HML.out]; rfl) HG2.out ?_; intro w9 hg9 ho9 hb9; have hcv := conv_e (row_rd hg9 (by rw [HML.out]; omega)); rw [HML.out] at hcv; have HB9 := Lib.hid (HM.out.below.trans (hb9 _ HG1.out)); clear hg9 ho9 hb9)
      go_ret
      exact ⟨by rw [HME.out]; rfl, HB9.out⟩
end Go.Proofs.YtbpjdfnnlmblaaaGreatDoor
/- A text is appended to bytes of one's own. -/
namespace Go.Proofs.YtbpjdfnnlmblaaaGreatDoor
open Go.RowKit
set_option linter.unusedSimpArgs false
set_option linter.unusedVariables false
theorem strCells_bcs (l : List UInt8) : Lib.strCells ⟨l.toArray⟩ = eB.flat l := by rw [flat_b]; rfl
/-- append of a text to bytes of one's own -/
theorem app_s {w : World} {ops : Array Oper} {rest : List Oper} {o : Oper} {a : Act} {Q : Exit → Act → World → Prop} (hgd : o.guard = none) (s x : Operand)
    (ho : o.op = .call { callee := .builtin .append, args := #[s, x], argTypes := #[50, 9] })
    (base : Nat) (v : Value) (l : List UInt8) (hs : a.eval s = v) (hown : OwnE eB w base v l) (t : List UInt8) (hx : a.eval x = .string ⟨t.toArray⟩)
    (hsz : l.length + t.length ≤ 1000000000) (hbase : base ≤ w.heap.size)
    (h : ∀ v' w', OwnE eB w' base v' (l ++ t) → w.grownBy w' v.ownBlock → wpList Tryz.prog ops Q rest (a.put o.dst v') w') : wpList Tryz.prog ops Q (o :: rest) a w := by
  obtain ⟨i0, z0, hi, hz, hs9, hz9, hb0, hb1⟩ := eB_ok.info'
  have hz2 : (Tryz.prog.info? 5).map (fun i => (i.zero, i.bytes)) = some (some (.int .u8 0), 1) := by kernel_rfl
  have hi' : Tryz.prog.info? 5 = some i0 := hi
  rw [hi'] at hz2
  simp only [Option.map_some, Option.some.injEq, Prod.mk.injEq] at hz2
  obtain ⟨v', w', hrun, h1, h2, _⟩ := Lib.run_append_own_string (P := Tryz.prog) w base 50 9 o.type 5 i0 Tryz.underlying50 Tryz.underlying9 hi' hz2.1 hs9 hz2.2 v l.length (eB.flat l) hown ⟨t.toArray⟩
    (by show l.length + t.length ≤ maxLen; unfold maxLen; omega) (by show l.length + t.length ≤ _; omega) hbase
  refine wpList_plain hgd fun K hK => ?_
  unfold Oper.wp execOp
  simp only [ho, resolve, invoke, builtin, Sem.run_bind, Sem.run_pure, Result.andThen_ok, List.map_toArray, List.map_cons, List.map_nil, hs, hx, hrun]
  refine hK _ _ (h _ _ ?_ h2)
  have h3 : w'.ownsRow base 5 1 v' (l.length + t.length) (eB.flat l ++ Lib.strCells ⟨t.toArray⟩) := h1
  rw [strCells_bcs, ← El.flat_append] at h3
  unfold OwnE
  rw [List.length_append]
  exact h3
end Go.Proofs.YtbpjdfnnlmblaaaGreatDoor
/- How a number and a text are written as bytes, in plain words. -/
namespace Go.Proofs.YtbpjdfnnlmblaaaGreatDoor
open Go.RowKit
set_option linter.unusedSimpArgs false
set_option linter.unusedVariables false
/-- how many bytes a number takes -/
def nb (m : Nat) : Nat :=
  if m = 0 then 0 else if m < 256 then 1 else if m < 65536 then 2 else if m < 16777216 then 3 else if m < 4294967296 then 4 else if m < 1099511627776 then 5 else if m < 281474976710656 then 6 else if m < 72057594037927936 then 7 else 8
theorem nb_le (m : Nat) : nb m ≤ 8 := by unfold nb; repeat' split <;> try omega
theorem nb_is (m k : Nat) (hk : k ≤ 8) (h1 : m < 256 ^ k) (h2 : k = 0 ∨ 256 ^ (k - 1) ≤ m) : nb m = k := by
  unfold nb
  rcases (by omega : k = 0 ∨ k = 1 ∨ k = 2 ∨ k = 3 ∨ k = 4 ∨ k = 5 ∨ k = 6 ∨ k = 7 ∨ k = 8) with rfl | rfl | rfl | rfl | rfl | rfl | rfl | rfl | rfl <;> simp at h1 h2 <;> (repeat' split) <;> omega
theorem nb_lt (m : Nat) (hm : m < 18446744073709551616) : m < 256 ^ nb m := by
  unfold nb
  (repeat' split) <;> simp <;> omega
theorem nb_ge (m : Nat) : nb m = 0 ∨ 256 ^ (nb m - 1) ≤ m := by
  unfold nb
  (repeat' split) <;> simp <;> omega
/-- the digits, the most significant one first -/
def beN (m k : Nat) : List UInt8 := (List.range k).map fun i => UInt8.ofNat (m / 256 ^ (k - 1 - i))
def leN (m k : Nat) : List UInt8 := (List.range k).map fun i => UInt8.ofNat (m / 256 ^ i)
def encM (m : Nat) (f : UInt8) : List UInt8 := (UInt8.ofNat (128 + nb m) ^^^ f) :: (beN m (nb m)).map (· ^^^ f)
/-- the encoding of a number -/
def encI (n : Int) : List UInt8 := if 0 ≤ n then encM n.toNat 0 else encM (-1 - n).toNat 255
/-- .. and of a text -/
def encS (s : List UInt8) : List UInt8 := encI s.length ++ s
theorem beN_len (m k : Nat) : (beN m k).length = k := by unfold beN; rw [List.length_map, List.length_range]
theorem leN_len (m k : Nat) : (leN m k).length = k := by unfold leN; rw [List.length_map, List.length_range]
theorem encM_len (m : Nat) (f : UInt8) : (encM m f).length = 1 + nb m := by unfold encM; rw [List.length_cons, List.length_map, beN_len]; omega
theorem encM_le (m : Nat) (f : UInt8) : (encM m f).length ≤ 9 := by rw [encM_len]; have := nb_le m; omega
theorem encI_le (n : Int) : (encI n).length ≤ 9 := by unfold encI; split <;> exact encM_le _ _
theorem encM_one (m : Nat) (f : UInt8) : (encM m f).take 1 = [UInt8.ofNat (128 + nb m) ^^^ f] := rfl
theorem encM_next (m : Nat) (f : UInt8) (r : Nat) (h1 : 1 ≤ r) (h2 : r ≤ nb m) : (encM m f).take (1 + (nb m - (r - 1))) = (encM m f).take (1 + (nb m - r)) ++ [UInt8.ofNat (m / 256 ^ (r - 1)) ^^^ f] := by
  have e : 1 + (nb m - (r - 1)) = (1 + (nb m - r)) + 1 := by omega
  rw [e, List.take_add_one]
  congr 1
  unfold encM
  rw [show 1 + (nb m - r) = (nb m - r) + 1 by omega, List.getElem?_cons_succ]
  unfold beN
  rw [List.getElem?_map, List.getElem?_map, List.getElem?_range (by omega)]
  simp only [Option.map_some]
  rw [show nb m - 1 - (nb m - r) = r - 1 by omega]
  rfl
theorem encM_full (m : Nat) (f : UInt8) : (encM m f).take (1 + (nb m - 0)) = encM m f := List.take_of_length_le (by rw [encM_len]; omega)
theorem leN_next (m k : Nat) : leN m (k + 1) = leN m k ++ [UInt8.ofNat (m / 256 ^ k)] := by
  unfold leN
  rw [List.range_succ, List.map_append]
  rfl
theorem leN_at (m k i : Nat) (h : i < k) : byteAt (leN m k) i = UInt8.ofNat (m / 256 ^ i) := by
  unfold byteAt leN
  rw [List.getD_eq_getElem?_getD, List.getElem?_map, List.getElem?_range h]
  rfl
theorem div_next (m k : Nat) : m / 256 ^ k / 256 = m / 256 ^ (k + 1) := by rw [Nat.div_div_eq_div_mul, Nat.pow_succ]
theorem xor255 (d : UInt8) : (255 : UInt8) - d = d ^^^ 255 := by
  apply UInt8.toBitVec_inj.1
  show (255#8) - d.toBitVec = d.toBitVec ^^^ (255#8)
  rw [show (255#8) = BitVec.allOnes 8 from rfl, BitVec.allOnes_sub_eq_not, BitVec.xor_allOnes]
theorem head255 (k : Nat) (hk : k ≤ 8) : (UInt8.ofNat (128 + k) ^^^ 255 : UInt8) = UInt8.ofNat (127 - k) := by
  rcases (by omega : k = 0 ∨ k = 1 ∨ k = 2 ∨ k = 3 ∨ k = 4 ∨ k = 5 ∨ k = 6 ∨ k = 7 ∨ k = 8) with rfl | rfl | rfl | rfl | rfl | rfl | rfl | rfl | rfl <;> decide
end Go.Proofs.YtbpjdfnnlmblaaaGreatDoor
