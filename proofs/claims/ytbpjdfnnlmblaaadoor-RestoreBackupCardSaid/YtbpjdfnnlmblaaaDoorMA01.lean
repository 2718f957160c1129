/- Parts of a proof, joined: contracts of functions of the program and plain lemmas (Base, Frame, Region, KeyA, KeyB, KeyC, KeyD, KeyE, KeyF, KeyG, KeyH, KeyI, KeyJ, KeyK, KeyL). No condition. -/
import Derived.WalkKit
import Derived.WalkSpells
import Derived.WalkLawsBesides
import Derived.Deep.QuietTactic
import Derived.BigQuiet
import Derived.Deep.RegionWith
import Derived.StillTailTactics
import Derived.Deep.RegionHeld3
import Derived.Lib.Hide
import Derived.Test.YtbpjdfnnlmblaaaDoorRows
import Derived.ProofKit
import Derived.OpenShut
import Derived.ShutString
import Derived.ChangeOld
import Derived.Below
import Derived.StillTail
import Derived.Deep.Quiet
import Derived.Test.YtbpjdfnnlmblaaaDoorChecked
import Derived.Shelf.GgClosure.Gives
/- Small laws that every proof of this seat leans on: bytes and words as the walk's numbers. -/
namespace Go.Proofs.YtbpjdfnnlmblaaaDoor
open Go.RowKit
set_option linter.unusedSimpArgs false

/-- a byte as a number of the walk's -/
def B8 (x : UInt8) : Int := (x.toNat : Int)
/-- a word as a number of the walk's -/
def W32 (x : UInt32) : Int := (x.toNat : Int)
theorem u8_lo (x : UInt8) : 0 ≤ B8 x := Int.natCast_nonneg _
theorem u8_hi (x : UInt8) : B8 x < 256 := by unfold B8; have := x.toNat_lt; omega
theorem u32_lo (x : UInt32) : 0 ≤ W32 x := Int.natCast_nonneg _
theorem u32_hi (x : UInt32) : W32 x < 4294967296 := by unfold W32; have := x.toNat_lt; omega
theorem u8_inj {x y : UInt8} (h : B8 x = B8 y) : x = y := UInt8.toNat_inj.1 (by unfold B8 at h; omega)
theorem u32_inj {x y : UInt32} (h : W32 x = W32 y) : x = y := UInt32.toNat_inj.1 (by unfold W32 at h; omega)

/-! bytes -/
/-- the byte at a place -/
def byteAt (l : List UInt8) (i : Nat) : UInt8 := l.getD i 0
@[go_sem] theorem byte_at (l : List UInt8) (i : Nat) (h : i < (ByteArray.mk l.toArray).size) : ((ByteArray.mk l.toArray)[i].toNat : Int) = B8 (byteAt l i) := by
  have h' : i < l.length := h
  have : (ByteArray.mk l.toArray)[i] = l[i] := rfl
  rw [this, B8, byteAt, List.getD_eq_getElem?_getD, List.getElem?_eq_getElem h', Option.getD_some]
@[go_sem] theorem u8_as_u32' (x : UInt8) : B8 x % 4294967296 = W32 x.toUInt32 := by
  have := u8_lo x; have := u8_hi x
  rw [Int.emod_eq_of_lt (by omega) (by omega)]; simp [B8, W32]
@[go_sem] theorem u8_as_u32 (x : UInt8) : IntKind.u32.wrap (B8 x) = W32 x.toUInt32 := by rw [IntKind.wrap_u32]; exact u8_as_u32' x
@[go_sem] theorem u32_as_u8' (x : UInt32) : W32 x % 256 = B8 x.toUInt8 := by simp [B8, W32]
@[go_sem] theorem u32_as_u8 (x : UInt32) : IntKind.u8.wrap (W32 x) = B8 x.toUInt8 := by rw [IntKind.wrap_u8]; exact u32_as_u8' x
@[go_sem] theorem u8_xor_u8 (x y : UInt8) : bits .xor .u8 (B8 x) (B8 y) = B8 (x ^^^ y) := by
  unfold B8; rw [u8_xor_nat _ _ x.toNat_lt y.toNat_lt]; simp
@[go_sem] theorem u8_or_u8 (x y : UInt8) : bits .or .u8 (B8 x) (B8 y) = B8 (x ||| y) := by
  unfold B8; rw [u8_or_nat _ _ x.toNat_lt y.toNat_lt]; simp
@[go_sem] theorem u8_and_u8 (x y : UInt8) : bits .and .u8 (B8 x) (B8 y) = B8 (x &&& y) := by
  unfold B8; rw [u8_and_nat _ _ x.toNat_lt y.toNat_lt]; simp

@[go_sem] theorem extract_go (l : List UInt8) (a b : Nat) : (ByteArray.mk l.toArray).extract a b = ⟨((l.drop a).take (b - a)).toArray⟩ := ByteArray.extract_mk l a b
theorem byteAt_take_drop (l : List UInt8) (a n i : Nat) (h : i < n) : byteAt ((l.drop a).take n) i = byteAt l (a + i) := by
  unfold byteAt; simp [List.getD_eq_getElem?_getD, List.getElem?_take, h, List.getElem?_drop]

/-! words -/
@[go_sem] theorem u32_add' (x y : UInt32) : (W32 x + W32 y) % 4294967296 = W32 (x + y) := by simp [W32]
@[go_sem] theorem u32_add (x y : UInt32) : IntKind.u32.wrap (W32 x + W32 y) = W32 (x + y) := by rw [IntKind.wrap_u32]; exact u32_add' x y
@[go_sem] theorem u32_add_one' (x : UInt32) : (W32 x + 1) % 4294967296 = W32 (x + 1) := u32_add' x 1
@[go_sem] theorem u32_add_one (x : UInt32) : IntKind.u32.wrap (W32 x + 1) = W32 (x + 1) := by rw [IntKind.wrap_u32]; exact u32_add_one' x
theorem u32_sub' (x y : UInt32) : (W32 x - W32 y) % 4294967296 = W32 (x - y) := by
  have h1 := x.toNat_lt; have h2 := y.toNat_lt
  simp only [W32, UInt32.toNat_sub]
  omega
attribute [go_sem] u32_sub'
@[go_sem] theorem u32_sub (x y : UInt32) : IntKind.u32.wrap (W32 x - W32 y) = W32 (x - y) := by rw [IntKind.wrap_u32]; exact u32_sub' x y
@[go_sem] theorem u32_xor_u32 (x y : UInt32) : bits .xor .u32 (W32 x) (W32 y) = W32 (x ^^^ y) := by
  unfold W32; rw [u32_xor_nat _ _ x.toNat_lt y.toNat_lt]; simp
@[go_sem] theorem u32_or_u32 (x y : UInt32) : bits .or .u32 (W32 x) (W32 y) = W32 (x ||| y) := by
  unfold W32; rw [u32_or_nat _ _ x.toNat_lt y.toNat_lt]; simp
@[go_sem] theorem u32_and_u32 (x y : UInt32) : bits .and .u32 (W32 x) (W32 y) = W32 (x &&& y) := by
  unfold W32; rw [u32_and_nat _ _ x.toNat_lt y.toNat_lt]; simp
/-- a shift to the left -/
def shl (x : UInt32) (n : Nat) : UInt32 := ⟨x.toBitVec <<< n⟩
/-- a shift to the right -/
def shr (x : UInt32) (n : Nat) : UInt32 := ⟨x.toBitVec >>> n⟩
theorem u32_shl' (x : UInt32) (n : Nat) : W32 x * 2 ^ n % 4294967296 = W32 (shl x n) := by
  have : (shl x n).toNat = x.toNat * 2 ^ n % 4294967296 := by
    show (x.toBitVec <<< n).toNat = _
    rw [BitVec.toNat_shiftLeft, Nat.shiftLeft_eq]; rfl
  unfold W32; rw [this, Int.natCast_emod, Int.natCast_mul, Int.natCast_pow]; rfl
theorem u32_shr' (x : UInt32) (n : Nat) : W32 x / 2 ^ n = W32 (shr x n) := by
  have : (shr x n).toNat = x.toNat / 2 ^ n := by
    show (x.toBitVec >>> n).toNat = _
    rw [BitVec.toNat_ushiftRight, Nat.shiftRight_eq_div_pow]; rfl
  unfold W32; rw [this, Int.natCast_ediv, Int.natCast_pow]; rfl
@[go_sem] theorem u32_shl8 (x : UInt32) : W32 x * 256 % 4294967296 = W32 (shl x 8) := u32_shl' x 8
@[go_sem] theorem u32_shl16 (x : UInt32) : W32 x * 65536 % 4294967296 = W32 (shl x 16) := u32_shl' x 16
@[go_sem] theorem u32_shl24 (x : UInt32) : W32 x * 16777216 % 4294967296 = W32 (shl x 24) := u32_shl' x 24
@[go_sem] theorem u32_shr8 (x : UInt32) : W32 x / 256 = W32 (shr x 8) := u32_shr' x 8
@[go_sem] theorem u32_shr16 (x : UInt32) : W32 x / 65536 = W32 (shr x 16) := u32_shr' x 16
@[go_sem] theorem u32_shr24 (x : UInt32) : W32 x / 16777216 = W32 (shr x 24) := u32_shr' x 24

/-! draws outermost -/
@[go_sem] theorem setCell_drewN (w : World) (n : Nat) (a : Addr) (v : Value) : (w.drewN n).setCell a v = (w.setCell a v).drewN n := rfl
@[go_sem] theorem setRow_drewN (w : World) (n g : Nat) (cs : Array Value) : (w.drewN n).setRow g cs = (w.setRow g cs).drewN n := rfl
@[go_sem] theorem alloc_drewN (w : World) (n : Nat) (o : Obj) : (w.drewN n).alloc o = (w.alloc o).drewN n := rfl
theorem below_drewN {B : Nat} {a w : World} (n : Nat) (h : Below B a w) : Below B a (w.drewN n) := ⟨h.os, h.tape, h.output, h.size, h.block⟩

/-! endings -/
theorem ret_int {k : IntKind} {a b : Int} (h : a = b) : Ending.returned (.int k a) = .returned (.int k b) := by rw [h]
theorem ret_u32 {a b : UInt32} (h : a = b) : Ending.returned (.int .u32 (W32 a)) = .returned (.int .u32 (W32 b)) := by rw [h]
theorem ret_u8 {a b : UInt8} (h : a = b) : Ending.returned (.int .u8 (B8 a)) = .returned (.int .u8 (B8 b)) := by rw [h]
theorem ret_bool {a b : Bool} (h : a = b) : Ending.returned (.bool a) = .returned (.bool b) := by rw [h]
end Go.Proofs.YtbpjdfnnlmblaaaDoor
/- What the frames of the laws share. -/
namespace Go.Proofs.YtbpjdfnnlmblaaaDoor
theorem Tryd.own : ownKnob Tryd.prog.godebug = none := by kernel_rfl
theorem Tryd.laidOut : laidOutB Tryd.prog = true := by kernel_rfl
theorem str_of (a : ByteArray) : ∃ l : List UInt8, a = ⟨l.toArray⟩ := ⟨a.data.toList, by simp⟩
theorem u32_of {a : Int} (h : (Lit.int .u32 a).wf = true) : ∃ c : UInt32, a = W32 c := by
  simp only [Lit.wf, Bool.and_eq_true, decide_eq_true_eq] at h
  have h1 : (0 : Int) ≤ a := h.1
  have h2 : a ≤ 4294967295 := h.2
  refine ⟨UInt32.ofNat a.toNat, ?_⟩
  unfold W32
  rw [UInt32.toNat_ofNat_of_lt' (by show a.toNat < 4294967296; omega)]
  omega
theorem u32_nat (n : Nat) (h : n < 4294967296) : IntKind.u32.wrap (n : Int) = W32 (UInt32.ofNat n) := by
  rw [IntKind.wrap_u32]
  unfold W32
  rw [UInt32.toNat_ofNat_of_lt' (by show n < 4294967296; omega)]
  omega
theorem i64_of {a : Int} (h : (Lit.int .i64 a).wf = true) : -9223372036854775808 ≤ a ∧ a ≤ 9223372036854775807 := by
  simp only [Lit.wf, Bool.and_eq_true, decide_eq_true_eq] at h
  exact h
end Go.Proofs.YtbpjdfnnlmblaaaDoor
/- A region that draws its order: all operations but the last few read memory or call quietly (in a class of worlds that may grow), the last few come in one order. One walk in the text's order serves every order. -/
namespace Go.Proofs.YtbpjdfnnlmblaaaDoor
variable {P : Program} {ops : Array Oper} {md : Region.Mode} {C : World → Prop}

/-- Whatever comes up among the first n, till f of them have come; then L. -/
def headAny (P : Program) (md : Region.Mode) (ops : Array Oper) (C : World → Prop) (n : Nat) (L : Array Bool → Act → Prop) : Nat → Array Bool → Act → Prop
  | 0, m, a => L m a
  | f + 1, m, a => Region.ready md ops m ≠ [] ∧ ∀ i, i ∈ Region.ready md ops m → i < n ∧ qOp P ops C i (headAny P md ops C n L f (m.setIfInBounds i true)) a

theorem headAny_sound {n g : Nat} {L : Array Bool → Act → Prop} {Q : Exit → Act → World → Prop} (hL : ∀ m a w, C w → L m a → wpAny P md ops Q g m a w)
    (f : Nat) : ∀ (m : Array Bool) (a : Act) (w : World), C w → headAny P md ops C n L f m a → wpAny P md ops Q (f + g) m a w := by
  induction f with
  | zero => intro m a w hw h; rw [Nat.zero_add]; exact hL m a w hw h
  | succ f ih =>
    intro m a w hw h
    have e : f + 1 + g = (f + g) + 1 := by omega
    rw [e]
    refine ⟨fun h0 => absurd h0 h.1, fun i hi => ?_⟩
    exact wpOp_of_qOp hw (fun a' w' hw' h' => ih _ a' w' hw' h') (h.2 i hi).2

theorem headAny_swap {n i : Nat} {oi : Oper} {v : Value} {L : Array Bool → Act → Prop} (hi : ops[i]? = some oi) (hns : Region.noSelect ops = true)
    (hs : Region.sinkB md ops n = true) (hc : Region.chainB md ops n = true) (hn : n < ops.size) (hin : i < n)
    (hL : ∀ m a, L m a → ∀ j ∈ Region.ready md ops m, n ≤ j) (f : Nat) :
    ∀ (m : Array Bool) (a : Act), HeadInv md ops n m →
      (∀ j oj, ops[j]? = some oj → j ≠ i → m.getD j true = false → (∀ e ∈ oj.after, Region.binds md e = true → e.on ≠ i) → oi.apart ops oj = true) →
      i ∈ Region.ready md ops m → YieldsIn P ops C oi v a → headAny P md ops C n L f (m.setIfInBounds i true) (a.put oi.dst v) → headAny P md ops C n L (f + 1) m a := by
  have sel := Region.noSelect_spec hns
  have low : ∀ (m : Array Bool), HeadInv md ops n m → i ∈ Region.ready md ops m → ∀ j, j ∈ Region.ready md ops m → j < n := by
    intro m inv hr j hj
    refine Nat.lt_of_not_le (fun h => ?_)
    exact tail_waits hs hc hn inv _ i rfl hin (mem_ready.1 hr).1 j h hj
  induction f with
  | zero =>
    intro m a inv _ hr hy H
    refine ⟨List.ne_nil_of_mem hr, fun j hj => ⟨low m inv hr j hj, ?_⟩⟩
    rcases Nat.decEq j i with hji | hji
    · have := hL _ _ H j (ready_mono hj hji)
      have := low m inv hr j hj
      omega
    · subst hji; exact hy.qOp hi H
  | succ f ih =>
    intro m a inv hap hr hy H
    refine ⟨List.ne_nil_of_mem hr, fun j hj => ⟨low m inv hr j hj, ?_⟩⟩
    rcases Nat.decEq j i with hji | hji
    · obtain ⟨hju, oj, hoj, hdep⟩ := mem_ready.1 hj
      have nodep : ∀ e ∈ oj.after, Region.binds md e = true → e.on ≠ i := by
        intro e he hb hei
        have h1 := hdep e he hb
        rw [hei, getD_both (mem_ready.1 hr).1] at h1
        cases h1
      have h1 := (H.2 j (ready_mono hj hji)).2
      have h2 := qOp_put hoj (hap j oj hoj hji hju nodep) (fun cs b => sel i oi cs b hi) (fun cs b => sel j oj cs b hoj) hy h1
      refine qOp_mono (fun a' h3 => ?_) h2
      refine ih (m.setIfInBounds j true) a' (inv.set hj (low m inv hr j hj)) ?_ (ready_mono hr (Ne.symm hji)) h3.1 ?_
      · intro k ok hk hki hun hno
        refine hap k ok hk hki ?_ hno
        rcases Nat.decEq j k with hjk | hjk
        · rwa [getD_set_ne true hjk] at hun
        · subst hjk; exact hju
      · rw [Array.setIfInBounds_comm _ _ hji]; exact h3.2
    · subst hji; exact hy.qOp hi H

theorem headAny_lex {n g : Nat} {K : Act → Prop} (hns : Region.noSelect ops = true) (hs : Region.sinkB md ops n = true) (hc : Region.chainB md ops n = true) (hn : n < ops.size)
    (l : List Oper) : ∀ (k : Nat) (m : Array Bool) (a : Act), (∀ j, j < l.length → l[j]? = ops[k + j]?) → k + l.length = n → HeadInv md ops n m →
    Region.lexHead md ops g l.length k m = true → wpQuiet P ops C K l a →
    headAny P md ops C n (fun m' a' => Region.seqB md ops g n m' = true ∧ K a') l.length m a := by
  induction l with
  | nil =>
    intro k m a _ hk _ hB h
    have e : k = n := by simpa using hk
    subst e
    exact ⟨by simpa [Region.lexHead] using hB, h⟩
  | cons o l ih =>
    intro k m a hl hk inv hB h
    have ho : ops[k]? = some o := by simpa using (hl 0 (by simp)).symm
    simp only [List.length_cons, Region.lexHead, Bool.and_eq_true] at hB
    have hkn : k < n := by simp only [List.length_cons] at hk; omega
    have hr : k ∈ Region.ready md ops m := by simpa using hB.1.1
    have hq : qOp P ops C k (wpQuiet P ops C K l) a := by unfold qOp; simp only [ho]; exact h
    obtain ⟨v, hy, hK⟩ := yieldsIn_of_qOp ho hq
    refine headAny_swap ho hns hs hc hn hkn (fun m' a' hL => seqB_ready hL.1) l.length m a inv (Region.free_spec ho hB.1.2) hr hy ?_
    refine ih (k + 1) _ _ (fun j hj => ?_) (by simp only [List.length_cons] at hk; omega) (inv.set hr hkn) hB.2 hK
    have := hl (j + 1) (by simp; omega)
    simpa [Nat.add_assoc, Nat.add_comm 1 j] using this

theorem region_tail (C : World → Prop) {id : Nat} {Q : Exit → Act → World → Prop} {a : Act} {w : World} {l : List Oper} (n : Nat) (hm : P.follows .mixedOrders = true) (hB : Region.lexTailB .any l.toArray n = true)
    (hC : C w.drew) (h : wpQuiet P l.toArray C (fun a' => ∀ w', C w' → wpList P l.toArray Q (l.drop n) a' w') (l.take n) a) : (Code.region id l.toArray true).wp P Q a w := by
  simp only [Region.lexTailB, Bool.and_eq_true, decide_eq_true_eq] at hB
  obtain ⟨⟨⟨⟨hns, hn⟩, hs⟩, hc⟩, hlex⟩ := hB
  have hnl : n < l.length := by simpa using hn
  have ht : (l.take n).length = n := by simp; omega
  have hd : (l.drop n).length = l.toArray.size - n := by simp
  have inv : HeadInv .any l.toArray n (Array.replicate l.toArray.size false) :=
    ⟨by simp, fun j oj _ hl => absurd hl (by rw [getD_replicate_false]; exact Bool.false_ne_true), fun t _ h2 => getD_in (by simpa using h2) (getD_replicate_false _ _)⟩
  refine wp_region_any hm ?_
  have H := headAny_lex (P := P) (C := C) (md := .any) (g := l.toArray.size - n) hns hs hc hn (l.take n) 0 _ a
    (fun j hj => by have hj' : j < n := by rw [ht] at hj; exact hj
                    simp [hj']) (by simpa using ht) inv (by rw [ht]; exact hlex) h
  have := headAny_sound (Q := Q) (g := l.toArray.size - n) (fun m a' w' hw' hL => by
    have := wpAny_of_seq (md := .any) (Q' := Q) (l.drop n) n m a' w' (fun j => by simp [List.getElem?_drop]) (by rw [hd]; exact hL.1) (hL.2 w' hw')
    rwa [hd] at this) _ _ _ w.drew hC H
  rw [ht, show n + (l.toArray.size - n) = l.toArray.size by omega] at this
  exact this

/-- at the class of the worlds that come of w by draws -/
theorem tail0 {id : Nat} {Q : Exit → Act → World → Prop} {a : Act} {w : World} {l : List Oper} (n : Nat) (hm : P.follows .mixedOrders = true) (hB : Region.lexTailB .any l.toArray n = true)
    (h : wpQuiet P l.toArray (fun w' => ∃ n, w' = w.drewN n) (fun a' => ∀ w', (∃ n, w' = w.drewN n) → wpList P l.toArray Q (l.drop n) a' w') (l.take n) a) : (Code.region id l.toArray true).wp P Q a w :=
  region_tail (fun w' => ∃ n, w' = w.drewN n) n hm hB ⟨1, rfl⟩ h
theorem tailD {id : Nat} {Q : Exit → Act → World → Prop} {a : Act} {w : World} {k : Nat} {l : List Oper} (n : Nat) (hm : P.follows .mixedOrders = true) (hB : Region.lexTailB .any l.toArray n = true)
    (h : wpQuiet P l.toArray (fun w' => ∃ n, w' = w.drewN n) (fun a' => ∀ w', (∃ n, w' = w.drewN n) → wpList P l.toArray Q (l.drop n) a' w') (l.take n) a) : (Code.region id l.toArray true).wp P Q a (w.drewN k) :=
  region_tail (fun w' => ∃ n, w' = w.drewN n) n hm hB ⟨k + 1, rfl⟩ h
theorem all0 {id : Nat} {Q : Exit → Act → World → Prop} {a : Act} {w : World} {l : List Oper} (hm : P.follows .mixedOrders = true) (hB : Region.lexB .any l.toArray = true)
    (h : wpQuiet P l.toArray (fun w' => ∃ n, w' = w.drewN n) (fun a' => ∀ w', (∃ n, w' = w.drewN n) → Q .normal a' w') l a) : (Code.region id l.toArray true).wp P Q a w :=
  wp_region_quiet (C := fun w' => ∃ n, w' = w.drewN n) hm hB ⟨1, rfl⟩ (by simpa using h)
theorem allD {id : Nat} {Q : Exit → Act → World → Prop} {a : Act} {w : World} {k : Nat} {l : List Oper} (hm : P.follows .mixedOrders = true) (hB : Region.lexB .any l.toArray = true)
    (h : wpQuiet P l.toArray (fun w' => ∃ n, w' = w.drewN n) (fun a' => ∀ w', (∃ n, w' = w.drewN n) → Q .normal a' w') l a) : (Code.region id l.toArray true).wp P Q a (w.drewN k) :=
  wp_region_quiet (C := fun w' => ∃ n, w' = w.drewN n) hm hB ⟨k + 1, rfl⟩ (by simpa using h)

/-- .. all of whose operations are quiet. -/
theorem region_all (C : World → Prop) {id : Nat} {Q : Exit → Act → World → Prop} {a : Act} {w : World} {l : List Oper} (hm : P.follows .mixedOrders = true) (hB : Region.lexB .any l.toArray = true)
    (hC : C w.drew) (h : wpQuiet P l.toArray C (fun a' => ∀ w', C w' → Q .normal a' w') l a) : (Code.region id l.toArray true).wp P Q a w :=
  wp_region_quiet (C := C) hm hB hC (by simpa using h)

/-! the class of the worlds that may have grown -/
open Go.RowKit
def Later (w : World) : Type := { u : World // Below w.heap.size w u }
instance (w : World) : Nonempty (Later w) := ⟨⟨w, Below.refl _ _⟩⟩
def Later.now {w : World} (u : Later w) : World := u.1
theorem Later.below {w : World} (u : Later w) : Below w.heap.size w u.now := u.2
@[go_sem] theorem Later.cell {w : World} (u : Later w) (b o : Nat) (h : b < w.heap.size) : u.now.cell? ⟨b, o, none⟩ = w.cell? ⟨b, o, none⟩ := u.below.cell (p := ⟨b, o, none⟩) h
@[go_sem] theorem Later.frozen {w : World} (u : Later w) (b o : Nat) (h : b < w.heap.size) : u.now.frozen? ⟨b, o, none⟩ = w.frozen? ⟨b, o, none⟩ := u.below.frozen (p := ⟨b, o, none⟩) h
theorem Later.call {w : World} (u : Later w) {f : FuncId} {args : Array Value} {v : Value} (h : Calls P f args u.now fun e w' => e = .returned v ∧ Below u.now.heap.size u.now w') :
    Calls P f args u.now fun e w'' => e = .returned v ∧ ∃ u' : Later w, w'' = u'.now :=
  h.mono fun _ w' hh => ⟨hh.1, ⟨w', u.below.trans (hh.2.mono u.below.size)⟩, rfl⟩
theorem allL {id : Nat} {Q : Exit → Act → World → Prop} {a : Act} {w : World} {l : List Oper} (hm : P.follows .mixedOrders = true) (hB : Region.lexB .any l.toArray = true)
    (h : wpQuiet P l.toArray (fun w' => ∃ u : Later w, w' = u.now) (fun a' => ∀ w', (∃ u : Later w, w' = u.now) → Q .normal a' w') l a) : (Code.region id l.toArray true).wp P Q a w :=
  region_all (fun w' => ∃ u : Later w, w' = u.now) hm hB ⟨⟨w.drew, (Below.refl _ _).drew⟩, rfl⟩ h
theorem tailL {id : Nat} {Q : Exit → Act → World → Prop} {a : Act} {w : World} {l : List Oper} (n : Nat) (hm : P.follows .mixedOrders = true) (hB : Region.lexTailB .any l.toArray n = true)
    (h : wpQuiet P l.toArray (fun w' => ∃ u : Later w, w' = u.now) (fun a' => ∀ w', (∃ u : Later w, w' = u.now) → wpList P l.toArray Q (l.drop n) a' w') (l.take n) a) : (Code.region id l.toArray true).wp P Q a w :=
  region_tail (fun w' => ∃ u : Later w, w' = u.now) n hm hB ⟨⟨w.drew, (Below.refl _ _).drew⟩, rfl⟩ h
end Go.Proofs.YtbpjdfnnlmblaaaDoor
/- Keys of tables as the walk's values; numbers within bounds. -/
namespace Go.Proofs.YtbpjdfnnlmblaaaDoor
open Go.RowKit
set_option linter.unusedSimpArgs false
set_option linter.unusedVariables false
/-- a key -/
structure K where
  id : Int
  ty : Int
  val : List UInt8
  uses : Int
  start : Int
  fin : Int
  ver : Int
  par : Int
  raw : Bool
deriving DecidableEq
instance : Inhabited K := ⟨⟨0, 0, [], 0, 0, 0, 0, 0, false⟩⟩
/-- its cells -/
def kc (k : K) : Array Value := #[.int .i64 k.id, .int .i64 k.ty, .string ⟨k.val.toArray⟩, .int .i64 k.uses, .int .i64 k.start, .int .i64 k.fin, .int .i64 k.ver, .int .i64 k.par, .bool k.raw]
def kv (k : K) : Value := .agg (kc k)
def win (n lo hi : Int) : Bool := decide (lo ≤ n) && decide (n ≤ hi)
theorem win_ref (n lo hi : Int) (w : World) : Calls Tryd.prog 37 #[.int .i64 n, .int .i64 lo, .int .i64 hi] w fun e w' => e = .returned (.bool (win n lo hi)) ∧ w' = w := by
  unfold win
  by_cases h1 : lo ≤ n
  · by_cases h2 : n ≤ hi
    · go_enter Tryd.func37, Tryd.ntmps37
      go_wp2
      go_ret
      simp [h1, h2]
    · go_enter Tryd.func37, Tryd.ntmps37
      go_wp2
      go_ret
      simp [h1, h2]
  · go_enter Tryd.func37, Tryd.ntmps37
    go_wp2
    go_ret
    refine ⟨?_, rfl⟩
    rw [decide_eq_false (by omega : ¬ lo ≤ n)]
    rfl
theorem win_c (n lo hi : Int) (w : World) : Calls Tryd.prog 81 #[.int .i64 n, .int .i64 lo, .int .i64 hi] w fun e w' => e = .returned (.bool (win n lo hi)) ∧ w' = w := by
  unfold win
  by_cases h1 : lo ≤ n
  · by_cases h2 : n ≤ hi
    · go_enter Tryd.func81, Tryd.ntmps81
      go_wp2
      go_ret
      simp [h1, h2]
    · go_enter Tryd.func81, Tryd.ntmps81
      go_wp2
      go_ret
      simp [h1, h2]
  · go_enter Tryd.func81, Tryd.ntmps81
    go_wp2
    go_ret
    refine ⟨?_, rfl⟩
    rw [decide_eq_false (by omega : ¬ lo ≤ n)]
    rfl
/-- the uses are among those that there are -/
def usesOK (u : Int) : Bool := bits .and .i64 u 956 == u
def validK (k : K) : Bool := win k.ty 0 31 && ((k.val.length : Int) == 32) && usesOK k.uses && win k.start 0 1099511627776 && win k.fin k.start 1099511627776 && win k.ver 1 2147483647 && win k.par 0 2147483647
attribute [local irreducible] win Calls
set_option maxHeartbeats 1000000 in
theorem valid_ref (k : K) (w : World) : Calls Tryd.prog 38 #[kv k] w fun e w' => e = .returned (.bool (validK k)) ∧ Below w.heap.size w w' := by
  unfold kv kc
  have hb := (Below.refl w.heap.size w).alloc (Nat.le_refl _) (.cells #[.int .i64 k.id, .int .i64 k.ty, .string ⟨k.val.toArray⟩, .int .i64 k.uses, .int .i64 k.start, .int .i64 k.fin, .int .i64 k.ver, .int .i64 k.par, .bool k.raw] 48)
  have HB := Lib.hid hb
  clear hb
  go_enter Tryd.func38, Tryd.ntmps38
  go_wp2_with (go_at_call 37; refine (win_ref _ _ _ _).mono ?_; rintro e _ ⟨rfl, rfl⟩)
  all_goals
    go_ret
    refine ⟨?_, HB.out⟩
    simp_all [validK, usesOK]
theorem wrap_toNat_inj {X Y : BitVec 64} (h : IntKind.i64.wrap (X.toNat : Int) = IntKind.i64.wrap (Y.toNat : Int)) : X = Y := by
  rw [IntKind.wrap_i64, IntKind.wrap_i64] at h
  have h1 := X.isLt
  have h2 := Y.isLt
  apply BitVec.eq_of_toNat_eq
  omega
theorem mask_iff (A M : BitVec 64) : A &&& ~~~M = 0 ↔ A &&& M = A := by
  constructor
  · intro h
    apply BitVec.eq_of_getLsbD_eq
    intro i hi
    have := congrArg (fun X => X.getLsbD i) h
    simp only [BitVec.getLsbD_and, BitVec.getLsbD_not, BitVec.getLsbD_zero, hi, decide_true, Bool.true_and] at this ⊢
    generalize A.getLsbD i = x at this ⊢
    generalize M.getLsbD i = y at this ⊢
    clear h hi
    revert this
    cases x <;> cases y <;> simp
  · intro h
    apply BitVec.eq_of_getLsbD_eq
    intro i hi
    have := congrArg (fun X => X.getLsbD i) h
    simp only [BitVec.getLsbD_and, BitVec.getLsbD_not, BitVec.getLsbD_zero, hi, decide_true, Bool.true_and] at this ⊢
    generalize A.getLsbD i = x at this ⊢
    generalize M.getLsbD i = y at this ⊢
    clear h hi
    revert this
    cases x <;> cases y <;> simp
/-- the same test in the program's words -/
theorem uses_not (u : Int) (h : IntKind.i64.wrap u = u) : (bits .andNot .i64 u 956 == 0) = usesOK u := by
  have e1 : bits .andNot .i64 u 956 = IntKind.i64.wrap ((BitVec.ofInt 64 u &&& ~~~BitVec.ofInt 64 956).toNat : Int) := rfl
  have e2 : bits .and .i64 u 956 = IntKind.i64.wrap ((BitVec.ofInt 64 u &&& BitVec.ofInt 64 956).toNat : Int) := rfl
  have e3 : IntKind.i64.wrap ((BitVec.ofInt 64 u).toNat : Int) = u := by
    rw [IntKind.wrap_i64] at h ⊢
    rw [BitVec.toNat_ofInt]
    omega
  have key : (bits .andNot .i64 u 956 = 0) ↔ (bits .and .i64 u 956 = u) := by
    rw [e1, e2]
    constructor
    · intro h0
      have hz : BitVec.ofInt 64 u &&& ~~~BitVec.ofInt 64 956 = 0 := wrap_toNat_inj (by rw [h0]; rfl)
      rw [(mask_iff _ _).1 hz, e3]
    · intro h0
      have hz : BitVec.ofInt 64 u &&& BitVec.ofInt 64 956 = BitVec.ofInt 64 u := wrap_toNat_inj (by rw [h0, e3])
      rw [(mask_iff _ _).2 hz]; rfl
  unfold usesOK
  by_cases hk : bits .and .i64 u 956 = u
  · rw [beq_iff_eq.2 hk, beq_iff_eq.2 (key.2 hk)]
  · rw [beq_eq_false_iff_ne.2 hk, beq_eq_false_iff_ne.2 (fun e => hk (key.1 e))]
/-- the program's order of the tests -/
def validC (k : K) : Bool := win k.ty 0 31 && ((k.val.length : Int) == 32) && usesOK k.uses && win k.start 0 k.fin && win k.fin 0 1099511627776 && win k.ver 1 2147483647 && win k.par 0 2147483647
theorem win_iff (n lo hi : Int) : win n lo hi = true ↔ lo ≤ n ∧ n ≤ hi := by unfold win; simp
theorem valid_eq (k : K) : validC k = validK k := by
  unfold validC validK
  have : (win k.start 0 k.fin && win k.fin 0 1099511627776) = (win k.start 0 1099511627776 && win k.fin k.start 1099511627776) := by
    rw [Bool.eq_iff_iff]
    simp only [Bool.and_eq_true, win_iff]
    omega
  simp only [Bool.and_assoc]
  rw [← Bool.and_assoc (win k.start 0 k.fin), ← Bool.and_assoc (win k.start 0 1099511627776), this]
/-- the numbers fit the machine's -/
structure K.wf (k : K) : Prop where
  id : IntKind.i64.wrap k.id = k.id
  uses : IntKind.i64.wrap k.uses = k.uses
set_option maxHeartbeats 1000000 in
theorem valid_c (k : K) (hk : k.wf) (w : World) : Calls Tryd.prog 52 #[kv k] w fun e w' => e = .returned (.bool (validK k)) ∧ Below w.heap.size w w' := by
  rw [← valid_eq]
  unfold kv kc
  have hu := uses_not k.uses hk.uses
  have hb := (Below.refl w.heap.size w).alloc (Nat.le_refl _) (.cells #[.int .i64 k.id, .int .i64 k.ty, .string ⟨k.val.toArray⟩, .int .i64 k.uses, .int .i64 k.start, .int .i64 k.fin, .int .i64 k.ver, .int .i64 k.par, .bool k.raw] 48)
  have HB := Lib.hid hb
  have HU := Lib.hid hu
  clear hb hu
  go_enter Tryd.func52, Tryd.ntmps52
  go_wp2_with (go_at_call 81; refine (win_c _ _ _ _).mono ?_; rintro e _ ⟨rfl, rfl⟩)
  all_goals
    go_ret
    refine ⟨?_, HB.out⟩
    unfold validC
    rw [← HU.out]
    simp_all
end Go.Proofs.YtbpjdfnnlmblaaaDoor
/- Keys that are alike. -/
namespace Go.Proofs.YtbpjdfnnlmblaaaDoor
open Go.RowKit
set_option linter.unusedSimpArgs false
set_option linter.unusedVariables false
/-- equal but for Id and Parent -/
def alikeK (a b : K) : Bool := (a.ty == b.ty) && (a.val == b.val) && (a.uses == b.uses) && (a.start == b.start) && (a.fin == b.fin) && (a.ver == b.ver) && (a.raw == b.raw)
attribute [local irreducible] Calls
/-- block B holds the key k -/
def KeyAt (w : World) (B : Nat) (k : K) : Prop := w.heap[B]? = some (.cells (kc k) 48 (0, 0))
theorem KeyAt.lt {w : World} {B : Nat} {k : K} (h : KeyAt w B k) : B < w.heap.size := (Array.getElem?_eq_some_iff.1 h).1
theorem KeyAt.keep {w w' : World} {B : Nat} {k : K} (h : KeyAt w B k) {n : Nat} (hb : Below n w w') (hn : B < n) : KeyAt w' B k := by
  unfold KeyAt
  rw [hb.block _ hn]
  exact h
theorem KeyAt.on {w w' : World} {B : Nat} {k : K} (h : KeyAt w B k) (hb : Below w.heap.size w w') : KeyAt w' B k := h.keep hb h.lt
theorem KeyAt.cell {w : World} {B : Nat} {k : K} (h : KeyAt w B k) (j : Nat) : w.cell? ⟨B, j, none⟩ = (kc k)[j]? := cell_of_row _ _ _ _ _ _ h
theorem KeyAt.new (w : World) (k : K) : KeyAt (w.alloc (.cells (kc k) 48)) w.heap.size k := heap_alloc_new _ _
/-- a function value that answers p and leaves what was there -/
def PredB (g : Nat) (lb : Array Value) (p : K → Bool) (w : World) : Prop :=
  ∀ (W : World) (x : K), Below w.heap.size w W → Calls Tryd.prog g (#[kv x] ++ lb) W fun e w' => e = .returned (.bool (p x)) ∧ Below w.heap.size w w'
set_option maxHeartbeats 2000000 in
theorem twin_pred (k : K) (B : Nat) (w : World) (h : KeyAt w B k) : PredB 49 #[.pointer (some ⟨B, 0, none⟩)] (fun x => alikeK x k) w := fun W x hb => by
  have hk := h.on hb
  have c0 : W.cell? ⟨B, 0, none⟩ = some (.int .i64 k.id) := hk.cell 0
  have c1 : W.cell? ⟨B, 1, none⟩ = some (.int .i64 k.ty) := hk.cell 1
  have c2 : W.cell? ⟨B, 2, none⟩ = some (.string ⟨k.val.toArray⟩) := hk.cell 2
  have c3 : W.cell? ⟨B, 3, none⟩ = some (.int .i64 k.uses) := hk.cell 3
  have c4 : W.cell? ⟨B, 4, none⟩ = some (.int .i64 k.start) := hk.cell 4
  have c5 : W.cell? ⟨B, 5, none⟩ = some (.int .i64 k.fin) := hk.cell 5
  have c6 : W.cell? ⟨B, 6, none⟩ = some (.int .i64 k.ver) := hk.cell 6
  have c7 : W.cell? ⟨B, 7, none⟩ = some (.int .i64 k.par) := hk.cell 7
  have c8 : W.cell? ⟨B, 8, none⟩ = some (.bool k.raw) := hk.cell 8
  have hlt := hk.lt
  have hne : B ≠ W.heap.size := by omega
  have hb2 : ∀ X, Below w.heap.size w (W.alloc X) := fun X => hb.alloc hb.size X
  have HB := Lib.hid hb2
  clear hb2 hb hk h
  show Calls Tryd.prog 49 #[.agg #[.int .i64 x.id, .int .i64 x.ty, .string ⟨x.val.toArray⟩, .int .i64 x.uses, .int .i64 x.start, .int .i64 x.fin, .int .i64 x.ver, .int .i64 x.par, .bool x.raw], .pointer (some ⟨B, 0, none⟩)] W _
  go_enter Tryd.func49, Tryd.ntmps49
  go_wp2
  go_region
  all_goals go_wp2
  all_goals
    go_ret
    refine ⟨by simp_all [alikeK], ?_⟩
    first | exact HB.out _ | exact (HB.out _).drew | exact below_drewN _ (HB.out _)
end Go.Proofs.YtbpjdfnnlmblaaaDoor
/- Lists of keys in memory; the first key that a function value takes; Twin. -/
namespace Go.Proofs.YtbpjdfnnlmblaaaDoor
open Go.RowKit Go.Shelf
set_option linter.unusedSimpArgs false
set_option linter.unusedVariables false
/-- the key at a place -/
def keyAt (l : List K) (j : Nat) : K := l[j]!
theorem keyAt_eq (l : List K) (j : Nat) (h : j < l.length) : keyAt l j = l[j] := by simp [keyAt, h]
/-- v is a slice with the keys l in world w -/
def RdK (w : World) (v : Value) (l : List K) : Prop :=
  ∃ a cap, v = .slice a l.length cap ∧ l.length ≤ cap ∧ cap ≤ maxLen ∧
    (0 < l.length → ∃ b off, a = some ⟨b, off, none⟩ ∧ b < w.heap.size ∧ ∀ j, j < l.length → ∀ i, i < 9 → w.cell? ⟨b, off + j * 9 + i, none⟩ = (kc (keyAt l j))[i]?)
theorem RdK.keep {w w' : World} {v : Value} {l : List K} {B : Nat} (h : RdK w v l) (hb : Below B w w') (hB : w.heap.size ≤ B) : RdK w' v l := by
  obtain ⟨a, cap, rfl, h1, h2, h3⟩ := h
  refine ⟨a, cap, rfl, h1, h2, fun h0 => ?_⟩
  obtain ⟨b, off, rfl, hlt, hc⟩ := h3 h0
  refine ⟨b, off, rfl, Nat.lt_of_lt_of_le hlt hb.size, fun j hj i hi => ?_⟩
  rw [hb.cell (p := ⟨b, off + j * 9 + i, none⟩) (Nat.lt_of_lt_of_le hlt hB)]
  exact hc j hj i hi
theorem RdK.on {w w' : World} {v : Value} {l : List K} (h : RdK w v l) (hb : Below w.heap.size w w') : RdK w' v l := h.keep hb (Nat.le_refl _)
theorem RdK.alloc {w : World} {v : Value} {l : List K} (h : RdK w v l) (X : Obj) : RdK (w.alloc X) v l := h.on ((Below.refl w.heap.size w).alloc (Nat.le_refl _) X)
theorem RdK.drew {w : World} {v : Value} {l : List K} (n : Nat) (h : RdK w v l) : RdK (w.drewN n) v l := h.on (below_drewN n (Below.refl w.heap.size w))
theorem RdK.nil (w : World) : RdK w (.slice none 0 0) [] := ⟨none, 0, rfl, Nat.le_refl _, by unfold maxLen; omega, fun h => absurd h (by simp)⟩
/-- the key k lies from cell o of block b on -/
def Nine (w : World) (b o : Nat) (k : K) : Prop :=
  w.cell? ⟨b, o, none⟩ = some (.int .i64 k.id) ∧ w.cell? ⟨b, o + 1, none⟩ = some (.int .i64 k.ty) ∧ w.cell? ⟨b, o + 2, none⟩ = some (.string ⟨k.val.toArray⟩) ∧
  w.cell? ⟨b, o + 3, none⟩ = some (.int .i64 k.uses) ∧ w.cell? ⟨b, o + 4, none⟩ = some (.int .i64 k.start) ∧ w.cell? ⟨b, o + 5, none⟩ = some (.int .i64 k.fin) ∧
  w.cell? ⟨b, o + 6, none⟩ = some (.int .i64 k.ver) ∧ w.cell? ⟨b, o + 7, none⟩ = some (.int .i64 k.par) ∧ w.cell? ⟨b, o + 8, none⟩ = some (.bool k.raw)
theorem RdK.cells {w : World} {a : Option Addr} {n cap : Nat} {l : List K} (h : RdK w (.slice a n cap) l) : 0 < l.length → ∃ b off, a = some ⟨b, off, none⟩ ∧ b < w.heap.size ∧
    ∀ j, j < l.length → Nine w b (off + j * 9) (keyAt l j) := by
  obtain ⟨a', c', e, _, _, h3⟩ := h
  cases e
  intro h0
  obtain ⟨b, off, rfl, hlt, hc⟩ := h3 h0
  refine ⟨b, off, rfl, hlt, fun j hj => ⟨hc j hj 0 (by omega), hc j hj 1 (by omega), hc j hj 2 (by omega), hc j hj 3 (by omega), hc j hj 4 (by omega), hc j hj 5 (by omega), hc j hj 6 (by omega), hc j hj 7 (by omega), hc j hj 8 (by omega)⟩⟩
theorem RdK.len {w : World} {v : Value} {l : List K} (h : RdK w v l) : l.length ≤ maxLen := by
  obtain ⟨a, cap, rfl, h1, h2, h3⟩ := h
  omega
/-- the place of the first that p takes, or -1 -/
def firstIx (p : K → Bool) (l : List K) : Int := match l.findIdx? p with | some i => (i : Int) | none => -1
theorem firstIx_hit (p : K → Bool) (l : List K) (k : Nat) (hk : k < l.length) (h : ∀ j, j < k → p (keyAt l j) = false) (hp : p (keyAt l k) = true) : firstIx p l = k := by
  have e : (keyAt l k) = l[k] := keyAt_eq l k hk
  have : l.findIdx? p = some k := by
    rw [List.findIdx?_eq_some_iff_getElem]
    refine ⟨hk, by rw [← e]; exact hp, fun j hj => ?_⟩
    have := h j hj
    rw [keyAt_eq l j (by omega)] at this
    simpa using this
  rw [firstIx, this]
theorem firstIx_miss (p : K → Bool) (l : List K) (h : ∀ j, j < l.length → p (keyAt l j) = false) : firstIx p l = -1 := by
  have : l.findIdx? p = none := by
    rw [List.findIdx?_eq_none_iff]
    intro x hx
    obtain ⟨i, hi, rfl⟩ := List.mem_iff_getElem.1 hx
    have := h i hi
    rw [keyAt_eq l i hi] at this
    exact this
  rw [firstIx, this]
attribute [local irreducible] Calls
set_option maxHeartbeats 2000000 in
theorem indexFunc_k (v : Value) (l : List K) (g : Nat) (lb : Array Value) (p : K → Bool) (w : World) (eg : ∀ args w, (callFunc g args).run Tryd.prog w = .ok (.enter g args) w) (hv : RdK w v l) (hp : PredB g lb p w) :
    Calls Tryd.prog 48 #[v, .func (.func g) #[] lb] w fun e w' => e = .returned (.int .i64 (firstIx p l)) ∧ Below w.heap.size w w' := by
  have hlen := hv.len
  unfold maxLen at hlen
  have HV := Lib.hid hv
  have HP := Lib.hid hp
  obtain ⟨a, cap, rfl, _, _, _⟩ := hv
  clear hp
  go_enter Tryd.func48, Tryd.ntmps48
  go_wp2
  go_loopw [8] (fun o wr => ∃ k : Nat, k ≤ l.length ∧ o = .int .i64 k ∧ Hid (∀ j, j < k → p (keyAt l j) = false) ∧ Below w.heap.size w wr) (fun o _ => l.length - (intOf o).toNat)
  case atStart => exact ⟨0, Nat.zero_le _, rfl, Lib.hid (fun j hj => absurd hj (by omega)), Below.refl _ _⟩
  case round =>
    obtain ⟨k, hk, rfl, hno, hb⟩ := hrel
    by_cases hlt : k < l.length
    · obtain ⟨b, off, rfl, hbl, hrow⟩ := ((HV.out.on hb).cells) (by omega)
      have hl2 := hrow k hlt
      have hcall := HP.out wr (keyAt l k) hb
      have i1 : (k : Int) < l.length := by omega
      have HK := Lib.hid hlt
      have HX : Hid (∀ j, j < k + 1 → j ≠ k → p (keyAt l j) = false) := Lib.hid (fun j hj hne => hno.out j (by omega))
      have HH := Lib.hid (fun h => firstIx_hit p l k hlt hno.out h)
      unfold kv kc at hcall
      clear hrow hno hb
      generalize hy : (keyAt l k) = y at hl2 hcall HH
      obtain ⟨d0, d1, d2, d3, d4, d5, d6, d7, d8⟩ := hl2
      have HY := Lib.hid hy
      clear hy
      cases hq : p y with
      | true =>
        rw [hq] at hcall
        have r := HH.out hq
        have HC := Lib.hid hcall
        clear hcall
        go_wp2_with (go_at_fn g; refine HC.out.mono ?_; rintro e w1 ⟨rfl, hb'⟩)
        go_ret
        exact ⟨by rw [r]; rfl, hb'⟩
      | false =>
        rw [hq] at hcall
        have HC := Lib.hid hcall
        have HQ := Lib.hid hq
        clear hcall hq
        go_wp2_with (go_at_fn g; refine HC.out.mono ?_; rintro e w1 ⟨rfl, hb'⟩)
        go_roundw
        case rel => exact ⟨k + 1, HK.out, by go_num, Lib.hid (fun j hj => by
          by_cases e : j = k
          · subst e; rw [HY.out]; exact HQ.out
          · exact HX.out j hj e), hb'⟩
        case measure => have := HK.out; simp [intOf]; omega
    · have he : k = l.length := by omega
      have i1 : (l.length : Int) ≤ k := by omega
      have hm := firstIx_miss p l (fun j hj => hno.out j (by omega))
      have HM := Lib.hid hm
      clear hm hno he
      go_wp2
      go_ret
      exact ⟨by rw [HM.out]; rfl, hb⟩
end Go.Proofs.YtbpjdfnnlmblaaaDoor
/- Twin, both. -/
namespace Go.Proofs.YtbpjdfnnlmblaaaDoor
open Go.RowKit Go.Shelf
set_option linter.unusedSimpArgs false
set_option linter.unusedVariables false
/-- the first key that is like k -/
def twinId (l : List K) (k : K) : Int := match l.findIdx? (fun x => alikeK x k) with | some i => (keyAt l i).id | none => 0
def twinIs (l : List K) (k : K) : Bool := match l.findIdx? (fun x => alikeK x k) with | some _ => true | none => false
theorem twin_parts (l : List K) (k : K) : (twinId l k = 0 ∧ twinIs l k = false ∧ firstIx (fun x => alikeK x k) l = -1 ∧ ∀ j, j < l.length → alikeK (keyAt l j) k = false) ∨
    (∃ i, i < l.length ∧ twinId l k = (keyAt l i).id ∧ twinIs l k = true ∧ firstIx (fun x => alikeK x k) l = i ∧ alikeK (keyAt l i) k = true ∧ ∀ j, j < i → alikeK (keyAt l j) k = false) := by
  unfold twinId twinIs firstIx
  cases h : l.findIdx? (fun x => alikeK x k) with
  | none =>
    refine .inl ⟨rfl, rfl, rfl, fun j hj => ?_⟩
    rw [List.findIdx?_eq_none_iff] at h
    have e : (keyAt l j) = l[j] := keyAt_eq l j hj
    rw [e]; exact h _ (List.getElem_mem _)
  | some i =>
    rw [List.findIdx?_eq_some_iff_getElem] at h
    obtain ⟨hi, hp, hn⟩ := h
    refine .inr ⟨i, hi, rfl, rfl, rfl, by rw [keyAt_eq l i hi]; exact hp, fun j hj => ?_⟩
    have e : (keyAt l j) = l[j]'(by omega) := keyAt_eq l j (by omega)
    rw [e]
    simpa using hn j hj
theorem kat2 (w : World) (A : Obj) (k : K) : KeyAt ((w.alloc A).alloc (.cells (kc k) 48)) (w.heap.size + 1) k := by
  have h := KeyAt.new (w.alloc A) k
  rwa [World.size_alloc] at h
theorem eg29 : ∀ args w, (callFunc 49 args).run Tryd.prog w = .ok (.enter 49 args) w := enters_of Tryd.func49 (by kernel_rfl) rfl
theorem below2 (w : World) (A B : Obj) {w1 : World} (h : Below ((w.alloc A).alloc B).heap.size ((w.alloc A).alloc B) w1) : Below w.heap.size w w1 :=
  (((Below.refl _ _).alloc (Nat.le_refl _) A).alloc (by simp) B).trans (h.mono (by simp; omega))
theorem boxed2 (w : World) (cs : Array Value) (T : TypeId) (B : Obj) {w1 : World} (h : Below ((w.alloc (.cells cs T)).alloc B).heap.size ((w.alloc (.cells cs T)).alloc B) w1) (j : Nat) : w1.cell? ⟨w.heap.size, j, none⟩ = cs[j]? := by
  have h2 := ((Below.refl (w.alloc (.cells cs T)).heap.size (w.alloc (.cells cs T))).alloc (Nat.le_refl _) B).trans (h.mono (by simp))
  rw [h2.cell (p := ⟨w.heap.size, j, none⟩) (by simp)]
  exact cell_of_row _ _ _ _ _ _ (heap_alloc_new _ _)
attribute [local irreducible] Calls alikeK
set_option maxHeartbeats 2000000 in
theorem twin_c (nx : Int) (v : Value) (l : List K) (k : K) (w : World) (hv : RdK w v l) :
    Calls Tryd.prog 19 #[.agg #[.int .i64 nx, v], kv k] w fun e w' => e = .returned (.tuple #[.int .i64 (twinId l k), .bool (twinIs l k)]) ∧ Below w.heap.size w w' := by
  have hmf : ∀ (fn : Fn) (first cap : Array Value) (w : World), (Instr.makeFunc fn first cap).run Tryd.prog w = .ok (.func fn first cap) w := fun _ _ _ _ => rfl
  have hlen := hv.len
  unfold maxLen at hlen
  have hcon := indexFunc_k v l 49 #[.pointer (some ⟨w.heap.size + 1, 0, none⟩)] (fun x => alikeK x k) ((w.alloc (.cells #[.int .i64 nx, v] 37)).alloc (.cells (kc k) 48)) eg29
    ((hv.alloc _).alloc _) (twin_pred k (w.heap.size + 1) _ (kat2 w _ k))
  have HV := Lib.hid ((hv.alloc (.cells #[.int .i64 nx, v] 37)).alloc (.cells (kc k) 48))
  obtain ⟨a, cap, rfl, _, _, _⟩ := hv
  rcases twin_parts l k with ⟨h1, h2, h3, _⟩ | ⟨i, hi, h1, h2, h3, _, _⟩
  · rw [h1, h2]
    rw [h3] at hcon
    unfold kc at hcon
    have HC := Lib.hid hcon
    clear hcon h1 h2 h3
    unfold kv kc
    go_enter Tryd.func19, Tryd.ntmps19
    go_wp2_with (go_at_call 48; refine HC.out.mono ?_; rintro e w1 ⟨rfl, hb⟩)
    go_ret2
    exact ⟨rfl, below2 _ _ _ hb⟩
  · rw [h1, h2]
    rw [h3] at hcon
    have i1 : (i : Int) < l.length := by omega
    have i2 : ¬ (i : Int) < 0 := by omega
    have HI := Lib.hid hi
    unfold kc at hcon HV
    have HC := Lib.hid hcon
    clear hcon h1 h2 h3
    unfold kv kc
    go_enter Tryd.func19, Tryd.ntmps19
    go_wp2_with (go_at_call 48; refine HC.out.mono ?_; rintro e w1 ⟨rfl, hb⟩; obtain ⟨b, off, rfl, hbl, hrow⟩ := ((HV.out.on hb).cells) (by omega); obtain ⟨d0, _⟩ := hrow i HI.out; have t1 : w1.cell? ⟨w.heap.size, 1, none⟩ = some (.slice (some ⟨b, off, none⟩) l.length cap) := boxed2 _ _ _ _ hb 1; clear hrow)
    go_ret2
    exact ⟨rfl, below2 _ _ _ hb⟩
end Go.Proofs.YtbpjdfnnlmblaaaDoor
/- The specification's Twin. -/
namespace Go.Proofs.YtbpjdfnnlmblaaaDoor
open Go.RowKit Go.Shelf
set_option linter.unusedSimpArgs false
set_option linter.unusedVariables false
theorem KeyAt.nine {w : World} {B : Nat} {k : K} (h : KeyAt w B k) : Nine w B 0 k := ⟨h.cell 0, h.cell 1, h.cell 2, h.cell 3, h.cell 4, h.cell 5, h.cell 6, h.cell 7, h.cell 8⟩
attribute [local irreducible] Calls alikeK
end Go.Proofs.YtbpjdfnnlmblaaaDoor
/- Does some key meet a test; the program's Holds. -/
namespace Go.Proofs.YtbpjdfnnlmblaaaDoor
open Go.RowKit Go.Shelf
set_option linter.unusedSimpArgs false
set_option linter.unusedVariables false
theorem firstIx_any (p : K → Bool) (l : List K) : decide (0 ≤ firstIx p l) = l.any p := by
  unfold firstIx
  cases h : l.findIdx? p with
  | none =>
    rw [List.findIdx?_eq_none_iff] at h
    have : l.any p = false := by
      rw [List.any_eq_false]
      intro x hx
      simpa using h x hx
    rw [this]; rfl
  | some i =>
    rw [List.findIdx?_eq_some_iff_getElem] at h
    obtain ⟨hi, hp, _⟩ := h
    have : l.any p = true := List.any_eq_true.2 ⟨_, List.getElem_mem hi, hp⟩
    rw [this]
    simp
theorem boxed1 (w : World) (cs : Array Value) (T : TypeId) {w1 : World} (h : Below (w.alloc (.cells cs T)).heap.size (w.alloc (.cells cs T)) w1) (j : Nat) : w1.cell? ⟨w.heap.size, j, none⟩ = cs[j]? := by
  rw [h.cell (p := ⟨w.heap.size, j, none⟩) (by simp)]
  exact cell_of_row _ _ _ _ _ _ (heap_alloc_new _ _)
theorem below1 (w : World) (A : Obj) {w1 : World} (h : Below (w.alloc A).heap.size (w.alloc A) w1) : Below w.heap.size w w1 :=
  ((Below.refl _ _).alloc (Nat.le_refl _) A).trans (h.mono (by simp))
attribute [local irreducible] Calls alikeK twinId twinIs
set_option maxHeartbeats 2000000 in
theorem containsFunc_k (v : Value) (l : List K) (g : Nat) (lb : Array Value) (p : K → Bool) (w : World) (eg : ∀ args w, (callFunc g args).run Tryd.prog w = .ok (.enter g args) w) (hv : RdK w v l) (hp : PredB g lb p w) :
    Calls Tryd.prog 40 #[v, .func (.func g) #[] lb] w fun e w' => e = .returned (.bool (l.any p)) ∧ Below w.heap.size w w' := by
  have hc := indexFunc_k v l g lb p w eg hv hp
  rw [← firstIx_any]
  have HC := Lib.hid hc
  clear hc hp
  go_enter Tryd.func40, Tryd.ntmps40
  go_wp2_with (go_at_call 48; refine HC.out.mono ?_; rintro e w1 ⟨rfl, hb⟩)
  go_ret
  exact ⟨rfl, hb⟩
/-- not over, and without a twin -/
def lacks (tl : List K) (now : Int) (x : K) : Bool := decide (now < x.fin) && !twinIs tl x
theorem eg32 : ∀ args w, (callFunc 51 args).run Tryd.prog w = .ok (.enter 51 args) w := enters_of Tryd.func51 (by kernel_rfl) rfl
set_option maxHeartbeats 2000000 in
theorem holds_pred (nx now : Int) (v : Value) (tl : List K) (B C : Nat) (w : World) (hv : RdK w v tl) (hB : w.heap[B]? = some (.cells #[.int .i64 nx, v] 37 (0, 0))) (hC : w.heap[C]? = some (.cells #[.int .i64 now] 3 (0, 0))) :
    PredB 51 #[.pointer (some ⟨B, 0, none⟩), .pointer (some ⟨C, 0, none⟩)] (lacks tl now) w := fun W x hb => by
  have zB : B < w.heap.size := (Array.getElem?_eq_some_iff.1 hB).1
  have zC : C < w.heap.size := (Array.getElem?_eq_some_iff.1 hC).1
  have hW := hb.size
  have b0 : W.cell? ⟨B, 0, none⟩ = some (.int .i64 nx) := by rw [hb.cell (p := ⟨B, 0, none⟩) zB]; exact cell_of_row _ _ _ _ _ _ hB
  have b1 : W.cell? ⟨B, 1, none⟩ = some v := by rw [hb.cell (p := ⟨B, 1, none⟩) zB]; exact cell_of_row _ _ _ _ _ _ hB
  have c0 : W.cell? ⟨C, 0, none⟩ = some (.int .i64 now) := by rw [hb.cell (p := ⟨C, 0, none⟩) zC]; exact cell_of_row _ _ _ _ _ _ hC
  have l1 : B < W.heap.size := by omega
  have l2 : C < W.heap.size := by omega
  have n1 : B ≠ W.heap.size := by omega
  have n2 : C ≠ W.heap.size := by omega
  have HC0 := Lib.hid c0
  have HV := Lib.hid ((hv.on hb).alloc (.cells (kc x) 48))
  have htw := twin_c nx v tl x (W.alloc (.cells (kc x) 48)) HV.out
  have HBX : Hid (∀ w1, Below (W.alloc (.cells (kc x) 48)).heap.size (W.alloc (.cells (kc x) 48)) w1 → w1.cell? ⟨W.heap.size, 5, none⟩ = some (.int .i64 x.fin) ∧ w1.cell? ⟨C, 0, none⟩ = some (.int .i64 now) ∧ Below w.heap.size w w1) :=
    Lib.hid (fun w1 h => ⟨boxed1 _ _ _ h 5, by rw [(below1 _ _ h).cell (p := ⟨C, 0, none⟩) (by show C < _; omega)]; exact c0, hb.trans ((below1 _ _ h).mono hW)⟩)
  unfold kv kc at htw
  unfold kc at HBX
  have HTW := Lib.hid htw
  obtain ⟨a, cap, rfl, _, _, _⟩ := hv
  clear htw hb hB hC
  show Calls Tryd.prog 51 #[.agg #[.int .i64 x.id, .int .i64 x.ty, .string ⟨x.val.toArray⟩, .int .i64 x.uses, .int .i64 x.start, .int .i64 x.fin, .int .i64 x.ver, .int .i64 x.par, .bool x.raw], .pointer (some ⟨B, 0, none⟩), .pointer (some ⟨C, 0, none⟩)] W _
  unfold lacks
  by_cases hf : now < x.fin
  · have hlt : decide (now < x.fin) = true := decide_eq_true hf
    rw [hlt]
    go_enter Tryd.func51, Tryd.ntmps51
    go_wp2_with (go_at_call 19; refine HTW.out.mono ?_; rintro e w1 ⟨rfl, hb'⟩; obtain ⟨f5, g0, hbb⟩ := HBX.out _ hb')
    go_ret
    exact ⟨by simp, hbb⟩
  · have hlt : decide (now < x.fin) = false := decide_eq_false hf
    rw [hlt]
    go_enter Tryd.func51, Tryd.ntmps51
    go_wp2_with (go_at_call 19; refine HTW.out.mono ?_; rintro e w1 ⟨rfl, hb'⟩; obtain ⟨f5, g0, hbb⟩ := HBX.out _ hb')
    go_ret
    exact ⟨by simp, hbb⟩
end Go.Proofs.YtbpjdfnnlmblaaaDoor
/- Backups as the walk's values. -/
namespace Go.Proofs.YtbpjdfnnlmblaaaDoor
open Go.RowKit Go.Shelf
set_option linter.unusedSimpArgs false
set_option linter.unusedVariables false
/-- a backup but for its keys -/
structure BK where
  dom : List UInt8
  ep : Int
  num : Int
  fw : Int
  tm : Int
  pol : List UInt8
  mo : List UInt8
def dcell (d : List UInt8) (i : Nat) : Value := .int .u8 (B8 (byteAt d i))
/-- its cells, v the slice of its keys -/
def bc (b : BK) (v : Value) : Array Value := #[dcell b.dom 0, dcell b.dom 1, dcell b.dom 2, dcell b.dom 3, dcell b.dom 4, dcell b.dom 5, dcell b.dom 6, dcell b.dom 7, dcell b.dom 8, dcell b.dom 9, dcell b.dom 10, dcell b.dom 11, dcell b.dom 12, dcell b.dom 13, dcell b.dom 14, dcell b.dom 15, .int .i64 b.ep, .int .i64 b.num, .int .i64 b.fw, .int .i64 b.tm, dcell b.pol 0, dcell b.pol 1, dcell b.pol 2, dcell b.pol 3, dcell b.pol 4, dcell b.pol 5, dcell b.pol 6, dcell b.pol 7, dcell b.pol 8, dcell b.pol 9, dcell b.pol 10, dcell b.pol 11, dcell b.pol 12, dcell b.pol 13, dcell b.pol 14, dcell b.pol 15, .string ⟨b.mo.toArray⟩, v]
@[go_sem] theorem bc_size (b : BK) (v : Value) : (bc b v).size = 38 := rfl
@[go_sem] theorem bc_0 (b : BK) (v : Value) : (bc b v)[0]? = some (dcell b.dom 0) := rfl
@[go_sem] theorem bc_1 (b : BK) (v : Value) : (bc b v)[1]? = some (dcell b.dom 1) := rfl
@[go_sem] theorem bc_2 (b : BK) (v : Value) : (bc b v)[2]? = some (dcell b.dom 2) := rfl
@[go_sem] theorem bc_3 (b : BK) (v : Value) : (bc b v)[3]? = some (dcell b.dom 3) := rfl
@[go_sem] theorem bc_4 (b : BK) (v : Value) : (bc b v)[4]? = some (dcell b.dom 4) := rfl
@[go_sem] theorem bc_5 (b : BK) (v : Value) : (bc b v)[5]? = some (dcell b.dom 5) := rfl
@[go_sem] theorem bc_6 (b : BK) (v : Value) : (bc b v)[6]? = some (dcell b.dom 6) := rfl
@[go_sem] theorem bc_7 (b : BK) (v : Value) : (bc b v)[7]? = some (dcell b.dom 7) := rfl
@[go_sem] theorem bc_8 (b : BK) (v : Value) : (bc b v)[8]? = some (dcell b.dom 8) := rfl
@[go_sem] theorem bc_9 (b : BK) (v : Value) : (bc b v)[9]? = some (dcell b.dom 9) := rfl
@[go_sem] theorem bc_10 (b : BK) (v : Value) : (bc b v)[10]? = some (dcell b.dom 10) := rfl
@[go_sem] theorem bc_11 (b : BK) (v : Value) : (bc b v)[11]? = some (dcell b.dom 11) := rfl
@[go_sem] theorem bc_12 (b : BK) (v : Value) : (bc b v)[12]? = some (dcell b.dom 12) := rfl
@[go_sem] theorem bc_13 (b : BK) (v : Value) : (bc b v)[13]? = some (dcell b.dom 13) := rfl
@[go_sem] theorem bc_14 (b : BK) (v : Value) : (bc b v)[14]? = some (dcell b.dom 14) := rfl
@[go_sem] theorem bc_15 (b : BK) (v : Value) : (bc b v)[15]? = some (dcell b.dom 15) := rfl
@[go_sem] theorem bc_16 (b : BK) (v : Value) : (bc b v)[16]? = some (.int .i64 b.ep) := rfl
@[go_sem] theorem bc_17 (b : BK) (v : Value) : (bc b v)[17]? = some (.int .i64 b.num) := rfl
@[go_sem] theorem bc_18 (b : BK) (v : Value) : (bc b v)[18]? = some (.int .i64 b.fw) := rfl
@[go_sem] theorem bc_19 (b : BK) (v : Value) : (bc b v)[19]? = some (.int .i64 b.tm) := rfl
@[go_sem] theorem bc_20 (b : BK) (v : Value) : (bc b v)[20]? = some (dcell b.pol 0) := rfl
@[go_sem] theorem bc_21 (b : BK) (v : Value) : (bc b v)[21]? = some (dcell b.pol 1) := rfl
@[go_sem] theorem bc_22 (b : BK) (v : Value) : (bc b v)[22]? = some (dcell b.pol 2) := rfl
@[go_sem] theorem bc_23 (b : BK) (v : Value) : (bc b v)[23]? = some (dcell b.pol 3) := rfl
@[go_sem] theorem bc_24 (b : BK) (v : Value) : (bc b v)[24]? = some (dcell b.pol 4) := rfl
@[go_sem] theorem bc_25 (b : BK) (v : Value) : (bc b v)[25]? = some (dcell b.pol 5) := rfl
@[go_sem] theorem bc_26 (b : BK) (v : Value) : (bc b v)[26]? = some (dcell b.pol 6) := rfl
@[go_sem] theorem bc_27 (b : BK) (v : Value) : (bc b v)[27]? = some (dcell b.pol 7) := rfl
@[go_sem] theorem bc_28 (b : BK) (v : Value) : (bc b v)[28]? = some (dcell b.pol 8) := rfl
@[go_sem] theorem bc_29 (b : BK) (v : Value) : (bc b v)[29]? = some (dcell b.pol 9) := rfl
@[go_sem] theorem bc_30 (b : BK) (v : Value) : (bc b v)[30]? = some (dcell b.pol 10) := rfl
@[go_sem] theorem bc_31 (b : BK) (v : Value) : (bc b v)[31]? = some (dcell b.pol 11) := rfl
@[go_sem] theorem bc_32 (b : BK) (v : Value) : (bc b v)[32]? = some (dcell b.pol 12) := rfl
@[go_sem] theorem bc_33 (b : BK) (v : Value) : (bc b v)[33]? = some (dcell b.pol 13) := rfl
@[go_sem] theorem bc_34 (b : BK) (v : Value) : (bc b v)[34]? = some (dcell b.pol 14) := rfl
@[go_sem] theorem bc_35 (b : BK) (v : Value) : (bc b v)[35]? = some (dcell b.pol 15) := rfl
@[go_sem] theorem bc_36 (b : BK) (v : Value) : (bc b v)[36]? = some (.string ⟨b.mo.toArray⟩) := rfl
@[go_sem] theorem bc_37 (b : BK) (v : Value) : (bc b v)[37]? = some v := rfl
attribute [irreducible] bc
theorem kheap3_0 (w : World) (A B C : Obj) : (((w.alloc A).alloc B).alloc C).heap[w.heap.size]? = some A := by
  have h := ((Below.refl (w.alloc A).heap.size (w.alloc A)).alloc (Nat.le_refl _) B).alloc (by simp) C
  rw [h.block _ (by simp)]
  exact heap_alloc_new _ _
theorem kheap3_2 (w : World) (A B C : Obj) : (((w.alloc A).alloc B).alloc C).heap[w.heap.size + 2]? = some C := by
  have h := heap_alloc_new ((w.alloc A).alloc B) C
  rw [World.size_alloc, World.size_alloc] at h
  exact h
theorem kbelow3 (w : World) (A B C : Obj) {w1 : World} (h : Below (((w.alloc A).alloc B).alloc C).heap.size (((w.alloc A).alloc B).alloc C) w1) : Below w.heap.size w w1 :=
  (((Below.refl _ _).alloc (Nat.le_refl _) A).alloc (by simp) B).trans ((below1 _ _ h).mono (by simp; omega))
attribute [local irreducible] Calls alikeK twinId twinIs
/-- every key of the backup that is not over has a twin -/
def holdsK (tl bl : List K) (now : Int) : Bool := !(bl.any (lacks tl now))
set_option maxHeartbeats 2000000 in
theorem holds_c (nx now : Int) (v u : Value) (tl bl : List K) (b : BK) (w : World) (hv : RdK w v tl) (hu : RdK w u bl) :
    Calls Tryd.prog 21 #[.agg #[.int .i64 nx, v], .agg (bc b u), .int .i64 now] w fun e w' => e = .returned (.bool (holdsK tl bl now)) ∧ Below w.heap.size w w' := by
  have hmf : ∀ (fn : Fn) (first cap : Array Value) (w : World), (Instr.makeFunc fn first cap).run Tryd.prog w = .ok (.func fn first cap) w := fun _ _ _ _ => rfl
  have hc := containsFunc_k u bl 51 #[.pointer (some ⟨w.heap.size, 0, none⟩), .pointer (some ⟨w.heap.size + 2, 0, none⟩)] (lacks tl now)
    (((w.alloc (.cells #[.int .i64 nx, v] 37)).alloc (.cells (bc b u) 26)).alloc (.cells #[.int .i64 now] 3)) eg32 (((hu.alloc _).alloc _).alloc _)
    (holds_pred nx now v tl _ _ _ (((hv.alloc _).alloc _).alloc _) (kheap3_0 _ _ _ _) (kheap3_2 _ _ _ _))
  have HC := Lib.hid hc
  have hkd : holdsK tl bl now = !(bl.any (lacks tl now)) := rfl
  rw [hkd]
  generalize bl.any (lacks tl now) = r at HC ⊢
  obtain ⟨a, cap, rfl, _, _, _⟩ := hu
  clear hc hkd
  go_enter Tryd.func21, Tryd.ntmps21
  go_wp2_with (go_at_call 40; refine HC.out.mono ?_; rintro e w1 ⟨rfl, hb⟩)
  go_ret
  exact ⟨rfl, kbelow3 _ _ _ _ hb⟩
end Go.Proofs.YtbpjdfnnlmblaaaDoor
/- The specification's Holds. -/
namespace Go.Proofs.YtbpjdfnnlmblaaaDoor
open Go.RowKit Go.Shelf
set_option linter.unusedSimpArgs false
set_option linter.unusedVariables false
theorem holdsK_false (tl bl : List K) (now : Int) (i : Nat) (hi : i < bl.length) (h : lacks tl now (keyAt bl i) = true) : holdsK tl bl now = false := by
  have : bl.any (lacks tl now) = true := List.any_eq_true.2 ⟨bl[i], List.getElem_mem hi, by rw [← keyAt_eq bl i hi]; exact h⟩
  rw [holdsK, this]; rfl
theorem holdsK_true (tl bl : List K) (now : Int) (h : ∀ j, j < bl.length → lacks tl now (keyAt bl j) = false) : holdsK tl bl now = true := by
  have : bl.any (lacks tl now) = false := by
    rw [List.any_eq_false]
    intro x hx
    obtain ⟨i, hi, rfl⟩ := List.mem_iff_getElem.1 hx
    have := h i hi
    rw [keyAt_eq bl i hi] at this
    simpa using this
  rw [holdsK, this]; rfl
theorem boxed2' (w : World) (A : Obj) (cs : Array Value) (T : TypeId) {w1 : World} (h : Below ((w.alloc A).alloc (.cells cs T)).heap.size ((w.alloc A).alloc (.cells cs T)) w1) (j : Nat) : w1.cell? ⟨w.heap.size + 1, j, none⟩ = cs[j]? := by
  have := boxed1 (w.alloc A) cs T h j
  rwa [World.size_alloc] at this
attribute [local irreducible] Calls alikeK twinId twinIs
end Go.Proofs.YtbpjdfnnlmblaaaDoor
/- Valid tables; small inputs. -/
namespace Go.Proofs.YtbpjdfnnlmblaaaDoor
open Go.RowKit Go.Shelf
set_option linter.unusedSimpArgs false
set_option linter.unusedVariables false
/-- the Id ahead of place i -/
def lastId (l : List K) (i : Nat) : Int := if i = 0 then 0 else (keyAt l (i - 1)).id
theorem lastId_zero (l : List K) : lastId l 0 = 0 := rfl
theorem lastId_succ (l : List K) (i : Nat) : lastId l (i + 1) = (keyAt l i).id := rfl
def okAt (nx : Int) (l : List K) (i : Nat) : Bool := validK (keyAt l i) && decide (lastId l i < (keyAt l i).id) && decide ((keyAt l i).id < nx) && decide ((keyAt l i).par < nx)
def validTab (nx : Int) (l : List K) : Bool := decide (l.length ≤ 4096) && win nx 1 2147483647 && (List.range l.length).all (okAt nx l)
theorem okAt_five (nx : Int) (l : List K) (i : Nat) : (okAt nx l i = false ∧ validK (keyAt l i) = false) ∨ (okAt nx l i = false ∧ validK (keyAt l i) = true ∧ (keyAt l i).id ≤ lastId l i) ∨
    (okAt nx l i = false ∧ validK (keyAt l i) = true ∧ ¬ (keyAt l i).id ≤ lastId l i ∧ nx ≤ (keyAt l i).id) ∨
    (okAt nx l i = false ∧ validK (keyAt l i) = true ∧ ¬ (keyAt l i).id ≤ lastId l i ∧ ¬ nx ≤ (keyAt l i).id ∧ nx ≤ (keyAt l i).par) ∨
    (okAt nx l i = true ∧ validK (keyAt l i) = true ∧ ¬ (keyAt l i).id ≤ lastId l i ∧ ¬ nx ≤ (keyAt l i).id ∧ ¬ nx ≤ (keyAt l i).par) := by
  unfold okAt
  by_cases h0 : validK (keyAt l i) = true
  · by_cases h1 : (keyAt l i).id ≤ lastId l i
    · exact .inr (.inl ⟨by rw [decide_eq_false (by omega : ¬ lastId l i < (keyAt l i).id)]; simp, h0, h1⟩)
    · by_cases h2 : nx ≤ (keyAt l i).id
      · exact .inr (.inr (.inl ⟨by rw [decide_eq_false (by omega : ¬ (keyAt l i).id < nx)]; simp, h0, h1, h2⟩))
      · by_cases h3 : nx ≤ (keyAt l i).par
        · exact .inr (.inr (.inr (.inl ⟨by rw [decide_eq_false (by omega : ¬ (keyAt l i).par < nx)]; simp, h0, h1, h2, h3⟩)))
        · exact .inr (.inr (.inr (.inr ⟨by rw [h0, decide_eq_true (by omega : lastId l i < (keyAt l i).id), decide_eq_true (by omega : (keyAt l i).id < nx), decide_eq_true (by omega : (keyAt l i).par < nx)]; rfl, h0, h1, h2, h3⟩)))
  · have h0' : validK (keyAt l i) = false := by simpa using h0
    exact .inl ⟨by rw [h0']; rfl, h0'⟩
theorem validTab_false (nx : Int) (l : List K) (i : Nat) (hi : i < l.length) (h : okAt nx l i = false) : validTab nx l = false := by
  have : (List.range l.length).all (okAt nx l) = false := by
    rw [List.all_eq_false]
    exact ⟨i, List.mem_range.2 hi, by rw [h]; decide⟩
  rw [validTab, this]; simp
theorem validTab_true (nx : Int) (l : List K) (h1 : l.length ≤ 4096) (h2 : win nx 1 2147483647 = true) (h : ∀ j, j < l.length → okAt nx l j = true) : validTab nx l = true := by
  have : (List.range l.length).all (okAt nx l) = true := List.all_eq_true.2 (fun i hi => h i (List.mem_range.1 hi))
  rw [validTab, this, h2, decide_eq_true h1]; rfl
theorem validTab_no1 (nx : Int) (l : List K) (h1 : ¬ l.length ≤ 4096) : validTab nx l = false := by rw [validTab, decide_eq_false h1]; rfl
theorem validTab_no2 (nx : Int) (l : List K) (h2 : win nx 1 2147483647 = false) : validTab nx l = false := by rw [validTab, h2]; simp
attribute [local irreducible] Calls alikeK twinId twinIs validTab okAt validK lastId win
set_option maxRecDepth 100000 in
set_option maxHeartbeats 4000000 in
theorem validTable_r (nx : Int) (v : Value) (l : List K) (w : World) (hv : RdK w v l) :
    Calls Tryd.prog 11 #[.agg #[.int .i64 nx, v]] w fun e w' => e = .returned (.bool (validTab nx l)) ∧ Below w.heap.size w w' := by
  have hlen := hv.len
  unfold maxLen at hlen
  obtain ⟨W0, hW0⟩ : ∃ W0, W0 = w.alloc (.cells #[.int .i64 nx, v] 37) := ⟨_, rfl⟩
  have hvw : RdK W0 v l := by rw [hW0]; exact hv.alloc _
  have hbx : ∀ w1, Below W0.heap.size W0 w1 → w1.cell? ⟨w.heap.size, 0, none⟩ = some (.int .i64 nx) ∧ w1.cell? ⟨w.heap.size, 1, none⟩ = some v := by
    intro w1 h
    rw [hW0] at h
    exact ⟨boxed1 _ _ _ h 0, boxed1 _ _ _ h 1⟩
  have hbe : ∀ w1, Below W0.heap.size W0 w1 → Below w.heap.size w w1 := by
    intro w1 h
    rw [hW0] at h
    exact below1 _ _ h
  have hsz : w.heap.size < W0.heap.size := by rw [hW0]; simp
  have HV := Lib.hid hvw
  have HBX := Lib.hid hbx
  have HBE := Lib.hid hbe
  have HW := Lib.hid hW0
  obtain ⟨a, cap, rfl, _, _, _⟩ := hv
  clear hW0 hvw hbx hbe
  by_cases hl1 : l.length ≤ 4096
  · have j1 : ¬ (4096 : Int) < l.length := by omega
    cases hw2 : win nx 1 2147483647 with
    | true =>
      have hwr := fun w => win_ref nx 1 2147483647 w
      rw [hw2] at hwr
      have HWR := Lib.hid hwr
      have HT0 := Lib.hid (fun i hi h => validTab_false nx l i hi h)
      have HT1 := Lib.hid (validTab_true nx l hl1 hw2)
      clear hwr hw2
      go_enter Tryd.func11, Tryd.ntmps11
      go_wp2_with (go_at_call 37; refine (HWR.out _).mono ?_; rintro e wf ⟨rfl, hwf⟩; rw [hwf]; clear hwf)
      go_loopw [3, 4] (fun la o wr => ∃ i : Nat, i ≤ l.length ∧ o = .int .i64 i ∧ la = .int .i64 (lastId l i) ∧ Hid (∀ j, j < i → okAt nx l j = true) ∧ Below W0.heap.size W0 wr) (fun _ o _ => l.length - (intOf o).toNat)
      case atStart => exact ⟨0, Nat.zero_le _, rfl, by rw [lastId_zero], Lib.hid (fun j hj => absurd hj (by omega)), by rw [← HW.out]; exact Below.refl _ _⟩
      case round =>
        obtain ⟨i, hi, rfl, rfl, hno, hb⟩ := hrel
        obtain ⟨t0, t1⟩ := HBX.out wr hb
        have hbs := hb.size
        have z0 : w.heap.size < wr.heap.size := by omega
        have z0' : w.heap.size ≠ wr.heap.size := by omega
        by_cases hlt : i < l.length
        · obtain ⟨bb, off, rfl, hbl, hrow⟩ := ((HV.out.on hb).cells) (by omega)
          obtain ⟨d0, d1, d2, d3, d4, d5, d6, d7, d8⟩ := hrow i hlt
          have i1 : (i : Int) < l.length := by omega
          have HK := Lib.hid hlt
          have HNO := hno
          have HB := Lib.hid hb
          have hval := valid_ref (keyAt l i) (wr.alloc (.cells (kc (keyAt l i)) 48))
          have hbx2 : ∀ w1, Below (wr.alloc (.cells (kc (keyAt l i)) 48)).heap.size (wr.alloc (.cells (kc (keyAt l i)) 48)) w1 →
              w1.cell? ⟨wr.heap.size, 0, none⟩ = some (.int .i64 (keyAt l i).id) ∧ w1.cell? ⟨wr.heap.size, 7, none⟩ = some (.int .i64 (keyAt l i).par) ∧ w1.cell? ⟨w.heap.size, 0, none⟩ = some (.int .i64 nx) ∧ Below W0.heap.size W0 w1 := by
            intro w1 h
            have h2 := HB.out.trans ((below1 _ _ h).mono hbs)
            exact ⟨boxed1 _ _ _ h 0, boxed1 _ _ _ h 7, (HBX.out _ h2).1, h2⟩
          unfold kv at hval
          unfold kc at hval hbx2
          have HLS := Lib.hid (lastId_succ l i)
          have HX2 := Lib.hid hbx2
          clear hrow hb hno hbx2
          rcases okAt_five nx l i with ⟨ho, h1⟩ | ⟨ho, h1, h2⟩ | ⟨ho, h1, h2, h3⟩ | ⟨ho, h1, h2, h3, h4⟩ | ⟨ho, h1, h2, h3, h4⟩
          case inr.inr.inr.inr =>
            rw [h1] at hval
            have HVAL := Lib.hid hval
            have HO := Lib.hid ho
            clear hval h1 ho
            go_wp2_with (go_at_call 38; refine HVAL.out.mono ?_; rintro e w1 ⟨rfl, hb'⟩; obtain ⟨e0, e7, n0, hbb⟩ := HX2.out _ hb'; clear hb')
            go_roundw
            case rel => exact ⟨i + 1, HK.out, by go_num, by rw [HLS.out], Lib.hid (fun j hj => by
              by_cases e : j = i
              · subst e; exact HO.out
              · exact HNO.out j (by omega)), hbb⟩
            case measure => have := HK.out; simp [intOf]; omega
          all_goals
            have HRES := Lib.hid (HT0.out i HK.out ho)
            rw [h1] at hval
            have HVAL := Lib.hid hval
            clear hval h1 ho
            go_wp2_with (go_at_call 38; refine HVAL.out.mono ?_; rintro e w1 ⟨rfl, hb'⟩; obtain ⟨e0, e7, n0, hbb⟩ := HX2.out _ hb'; clear hb')
            go_ret
            exact ⟨by rw [HRES.out]; rfl, HBE.out _ hbb⟩
        · have he : i = l.length := by omega
          have i1 : (l.length : Int) ≤ i := by omega
          have HRES := Lib.hid (HT1.out (fun j hj => hno.out j (by omega)))
          clear hno he
          go_wp2
          go_ret
          exact ⟨by rw [HRES.out]; rfl, HBE.out _ hb⟩
    | false =>
      have hwr := fun w => win_ref nx 1 2147483647 w
      rw [hw2] at hwr
      have HWR := Lib.hid hwr
      rw [validTab_no2 nx l hw2]
      clear hwr hw2
      go_enter Tryd.func11, Tryd.ntmps11
      go_wp2_with (go_at_call 37; refine (HWR.out _).mono ?_; rintro e wf ⟨rfl, hwf⟩; rw [hwf]; clear hwf)
      go_ret
      exact ⟨rfl, HBE.out _ (by rw [← HW.out]; exact Below.refl _ _)⟩
  · have j1 : (4096 : Int) < l.length := by omega
    rw [validTab_no1 nx l hl1]
    go_enter Tryd.func11, Tryd.ntmps11
    go_wp2
    go_ret
    exact ⟨rfl, HBE.out _ (by rw [← HW.out]; exact Below.refl _ _)⟩
end Go.Proofs.YtbpjdfnnlmblaaaDoor
/- Lists of numbers; the backup's bounds. -/
namespace Go.Proofs.YtbpjdfnnlmblaaaDoor
open Go.RowKit Go.Shelf
set_option linter.unusedSimpArgs false
set_option linter.unusedVariables false
def intAt (l : List Int) (j : Nat) : Int := l.getD j 0
theorem intAt_eq (l : List Int) (j : Nat) (h : j < l.length) : intAt l j = l[j] := by simp [intAt, h]
/-- v is a slice with the numbers l in world w -/
def RdI (w : World) (v : Value) (l : List Int) : Prop :=
  ∃ a cap, v = .slice a l.length cap ∧ l.length ≤ cap ∧ cap ≤ maxLen ∧
    (0 < l.length → ∃ b off, a = some ⟨b, off, none⟩ ∧ b < w.heap.size ∧ ∀ i, i < l.length → w.cell? ⟨b, off + i, none⟩ = some (.int .i64 (intAt l i)))
theorem RdI.keep {w w' : World} {v : Value} {l : List Int} {B : Nat} (h : RdI w v l) (hb : Below B w w') (hB : w.heap.size ≤ B) : RdI w' v l := by
  obtain ⟨a, cap, rfl, h1, h2, h3⟩ := h
  refine ⟨a, cap, rfl, h1, h2, fun h0 => ?_⟩
  obtain ⟨b, off, rfl, hlt, hc⟩ := h3 h0
  refine ⟨b, off, rfl, Nat.lt_of_lt_of_le hlt hb.size, fun i hi => ?_⟩
  rw [hb.cell (p := ⟨b, off + i, none⟩) (Nat.lt_of_lt_of_le hlt hB)]
  exact hc i hi
theorem RdI.on {w w' : World} {v : Value} {l : List Int} (h : RdI w v l) (hb : Below w.heap.size w w') : RdI w' v l := h.keep hb (Nat.le_refl _)
theorem RdI.alloc {w : World} {v : Value} {l : List Int} (h : RdI w v l) (X : Obj) : RdI (w.alloc X) v l := h.on ((Below.refl w.heap.size w).alloc (Nat.le_refl _) X)
theorem RdI.nil (w : World) : RdI w (.slice none 0 0) [] := ⟨none, 0, rfl, Nat.le_refl _, by unfold maxLen; omega, fun h => absurd h (by simp)⟩
theorem RdI.cells {w : World} {a : Option Addr} {n cap : Nat} {l : List Int} (h : RdI w (.slice a n cap) l) : 0 < l.length → ∃ b off, a = some ⟨b, off, none⟩ ∧ b < w.heap.size ∧ ∀ j, j < l.length → w.cell? ⟨b, off + j, none⟩ = some (.int .i64 (intAt l j)) := by
  obtain ⟨a', c', e, _, _, h3⟩ := h
  cases e
  exact h3
theorem RdI.len {w : World} {v : Value} {l : List Int} (h : RdI w v l) : l.length ≤ maxLen := by
  obtain ⟨a, cap, rfl, h1, h2, h3⟩ := h
  omega
theorem built_i (w : World) (l : List Int) (h : l.length ≤ 1000) : RdI (w.alloc (.cells (l.map (Value.int .i64)).toArray 3)) (.slice (some ⟨w.heap.size, 0, none⟩) l.length l.length) l :=
  ⟨_, _, rfl, Nat.le_refl _, by unfold maxLen; omega, fun _ => ⟨w.heap.size, 0, rfl, by simp, fun i hi => by
    rw [Nat.zero_add, cell_of_row _ _ _ _ _ _ (heap_alloc_new _ _)]
    simp [intAt, hi]⟩⟩
def firstI (p : Int → Bool) (l : List Int) : Int := match l.findIdx? p with | some i => (i : Int) | none => -1
theorem firstI_hit (p : Int → Bool) (l : List Int) (k : Nat) (hk : k < l.length) (h : ∀ j, j < k → p (intAt l j) = false) (hp : p (intAt l k) = true) : firstI p l = k := by
  have : l.findIdx? p = some k := by
    rw [List.findIdx?_eq_some_iff_getElem]
    refine ⟨hk, by rw [← intAt_eq l k hk]; exact hp, fun j hj => ?_⟩
    have := h j hj
    rw [intAt_eq l j (by omega)] at this
    simpa using this
  rw [firstI, this]
theorem firstI_miss (p : Int → Bool) (l : List Int) (h : ∀ j, j < l.length → p (intAt l j) = false) : firstI p l = -1 := by
  have : l.findIdx? p = none := by
    rw [List.findIdx?_eq_none_iff]
    intro x hx
    obtain ⟨i, hi, rfl⟩ := List.mem_iff_getElem.1 hx
    have := h i hi
    rw [intAt_eq l i hi] at this
    exact this
  rw [firstI, this]
theorem firstI_any (p : Int → Bool) (l : List Int) : decide (0 ≤ firstI p l) = l.any p := by
  unfold firstI
  cases h : l.findIdx? p with
  | none =>
    rw [List.findIdx?_eq_none_iff] at h
    have : l.any p = false := by
      rw [List.any_eq_false]
      intro x hx
      simpa using h x hx
    rw [this]; rfl
  | some i =>
    rw [List.findIdx?_eq_some_iff_getElem] at h
    obtain ⟨hi, hp, _⟩ := h
    have : l.any p = true := List.any_eq_true.2 ⟨_, List.getElem_mem hi, hp⟩
    rw [this]
    simp
def PredI (g : Nat) (lb : Array Value) (p : Int → Bool) (w : World) : Prop :=
  ∀ (W : World) (x : Int), Below w.heap.size w W → Calls Tryd.prog g (#[.int .i64 x] ++ lb) W fun e w' => e = .returned (.bool (p x)) ∧ Below w.heap.size w w'
attribute [local irreducible] Calls
set_option maxHeartbeats 2000000 in
theorem indexFunc_i (v : Value) (l : List Int) (g : Nat) (lb : Array Value) (p : Int → Bool) (w : World) (eg : ∀ args w, (callFunc g args).run Tryd.prog w = .ok (.enter g args) w) (hv : RdI w v l) (hp : PredI g lb p w) :
    Calls Tryd.prog 100 #[v, .func (.func g) #[] lb] w fun e w' => e = .returned (.int .i64 (firstI p l)) ∧ Below w.heap.size w w' := by
  have hlen := hv.len
  unfold maxLen at hlen
  have HV := Lib.hid hv
  have HP := Lib.hid hp
  obtain ⟨a, cap, rfl, _, _, _⟩ := hv
  clear hp
  go_enter Tryd.func100, Tryd.ntmps100
  go_wp2
  go_loopw [8] (fun o wr => ∃ k : Nat, k ≤ l.length ∧ o = .int .i64 k ∧ Hid (∀ j, j < k → p (intAt l j) = false) ∧ Below w.heap.size w wr) (fun o _ => l.length - (intOf o).toNat)
  case atStart => exact ⟨0, Nat.zero_le _, rfl, Lib.hid (fun j hj => absurd hj (by omega)), Below.refl _ _⟩
  case round =>
    obtain ⟨k, hk, rfl, hno, hb⟩ := hrel
    by_cases hlt : k < l.length
    · obtain ⟨b, off, rfl, hbl, hrow⟩ := ((HV.out.on hb).cells) (by omega)
      have d0 := hrow k hlt
      have hcall := HP.out wr (intAt l k) hb
      have i1 : (k : Int) < l.length := by omega
      have HK := Lib.hid hlt
      have HX : Hid (∀ j, j < k + 1 → j ≠ k → p (intAt l j) = false) := Lib.hid (fun j hj hne => hno.out j (by omega))
      have HH := Lib.hid (fun h => firstI_hit p l k hlt hno.out h)
      clear hrow hno hb
      generalize hy : intAt l k = y at d0 hcall HH
      have HY := Lib.hid hy
      clear hy
      cases hq : p y with
      | true =>
        rw [hq] at hcall
        have r := HH.out hq
        have HC := Lib.hid hcall
        clear hcall
        go_wp2_with (go_at_fn g; refine HC.out.mono ?_; rintro e w1 ⟨rfl, hb'⟩)
        go_ret
        exact ⟨by rw [r]; rfl, hb'⟩
      | false =>
        rw [hq] at hcall
        have HC := Lib.hid hcall
        have HQ := Lib.hid hq
        clear hcall hq
        go_wp2_with (go_at_fn g; refine HC.out.mono ?_; rintro e w1 ⟨rfl, hb'⟩)
        go_roundw
        case rel => exact ⟨k + 1, HK.out, by go_num, Lib.hid (fun j hj => by
          by_cases e : j = k
          · subst e; rw [HY.out]; exact HQ.out
          · exact HX.out j hj e), hb'⟩
        case measure => have := HK.out; simp [intOf]; omega
    · have he : k = l.length := by omega
      have i1 : (l.length : Int) ≤ k := by omega
      have hm := firstI_miss p l (fun j hj => hno.out j (by omega))
      have HM := Lib.hid hm
      clear hm hno he
      go_wp2
      go_ret
      exact ⟨by rw [HM.out]; rfl, hb⟩
theorem containsFunc_i (v : Value) (l : List Int) (g : Nat) (lb : Array Value) (p : Int → Bool) (w : World) (eg : ∀ args w, (callFunc g args).run Tryd.prog w = .ok (.enter g args) w) (hv : RdI w v l) (hp : PredI g lb p w) :
    Calls Tryd.prog 82 #[v, .func (.func g) #[] lb] w fun e w' => e = .returned (.bool (l.any p)) ∧ Below w.heap.size w w' := by
  have hc := indexFunc_i v l g lb p w eg hv hp
  rw [← firstI_any]
  have HC := Lib.hid hc
  clear hc hp
  go_enter Tryd.func82, Tryd.ntmps82
  go_wp2_with (go_at_call 100; refine HC.out.mono ?_; rintro e w1 ⟨rfl, hb⟩)
  go_ret
  exact ⟨rfl, hb⟩
theorem eg50 : ∀ args w, (callFunc 83 args).run Tryd.prog w = .ok (.enter 83 args) w := enters_of Tryd.func83 (by kernel_rfl) rfl
theorem within_pred (most : Int) (C : Nat) (w : World) (hC : w.heap[C]? = some (.cells #[.int .i64 most] 3 (0, 0))) : PredI 83 #[.pointer (some ⟨C, 0, none⟩)] (fun n => !win n 0 most) w := fun W x hb => by
  have zC : C < w.heap.size := (Array.getElem?_eq_some_iff.1 hC).1
  have c0 : W.cell? ⟨C, 0, none⟩ = some (.int .i64 most) := by rw [hb.cell (p := ⟨C, 0, none⟩) zC]; exact cell_of_row _ _ _ _ _ _ hC
  show Calls Tryd.prog 83 #[.int .i64 x, .pointer (some ⟨C, 0, none⟩)] W _
  unfold win
  simp only []
  by_cases h1 : x < 0
  · rw [decide_eq_false (by omega : ¬ 0 ≤ x)]
    go_enter Tryd.func83, Tryd.ntmps83
    go_wp2
    go_ret
    exact ⟨rfl, hb⟩
  · have h1' : ¬ x < 0 := h1
    rw [decide_eq_true (by omega : 0 ≤ x)]
    by_cases h2 : most < x
    · rw [decide_eq_false (by omega : ¬ x ≤ most)]
      go_enter Tryd.func83, Tryd.ntmps83
      go_wp2
      go_ret
      exact ⟨rfl, hb⟩
    · rw [decide_eq_true (by omega : x ≤ most)]
      go_enter Tryd.func83, Tryd.ntmps83
      go_wp2
      go_ret
      exact ⟨rfl, hb⟩
theorem within_b (most : Int) (v : Value) (l : List Int) (w : World) (hv : RdI w v l) :
    Calls Tryd.prog 53 #[.int .i64 most, v] w fun e w' => e = .returned (.bool (l.all (fun n => win n 0 most))) ∧ Below w.heap.size w w' := by
  have hmf : ∀ (fn : Fn) (first cap : Array Value) (w : World), (Instr.makeFunc fn first cap).run Tryd.prog w = .ok (.func fn first cap) w := fun _ _ _ _ => rfl
  have hc := containsFunc_i v l 83 #[.pointer (some ⟨w.heap.size, 0, none⟩)] (fun n => !win n 0 most) (w.alloc (.cells #[.int .i64 most] 3)) eg50 (hv.alloc _) (within_pred most _ _ (heap_alloc_new _ _))
  have e : l.all (fun n => win n 0 most) = !(l.any (fun n => !win n 0 most)) := by
    rw [List.all_eq_not_any_not]
  rw [e]
  generalize l.any (fun n => !win n 0 most) = r at hc ⊢
  have HC := Lib.hid hc
  clear hc e
  go_enter Tryd.func53, Tryd.ntmps53
  go_wp2_with (go_at_call 82; refine HC.out.mono ?_; rintro e w1 ⟨rfl, hb⟩)
  go_ret
  exact ⟨rfl, below1 _ _ hb⟩
end Go.Proofs.YtbpjdfnnlmblaaaDoor
/- Valid backups, both. -/
namespace Go.Proofs.YtbpjdfnnlmblaaaDoor
open Go.RowKit Go.Shelf
set_option linter.unusedSimpArgs false
set_option linter.unusedVariables false
def okB (l : List K) (i : Nat) : Bool := validK (keyAt l i) && decide (lastId l i < (keyAt l i).id) && decide ((keyAt l i).id ≤ 2147483647)
def headB (b : BK) (l : List K) : Bool := win b.ep 0 2147483647 && win b.num 0 2147483647 && win b.fw 0 2147483647 && win b.tm 0 1099511627776 && decide (1 ≤ b.mo.length) && decide (b.mo.length ≤ 12) && decide (l.length ≤ 4096)
def validB (b : BK) (l : List K) : Bool := headB b l && (List.range l.length).all (okB l)
theorem okB_four (l : List K) (i : Nat) : (okB l i = false ∧ validK (keyAt l i) = false) ∨ (okB l i = false ∧ validK (keyAt l i) = true ∧ (keyAt l i).id ≤ lastId l i) ∨
    (okB l i = false ∧ validK (keyAt l i) = true ∧ ¬ (keyAt l i).id ≤ lastId l i ∧ 2147483647 < (keyAt l i).id) ∨
    (okB l i = true ∧ validK (keyAt l i) = true ∧ ¬ (keyAt l i).id ≤ lastId l i ∧ ¬ 2147483647 < (keyAt l i).id) := by
  unfold okB
  by_cases h0 : validK (keyAt l i) = true
  · by_cases h1 : (keyAt l i).id ≤ lastId l i
    · exact .inr (.inl ⟨by rw [decide_eq_false (by omega : ¬ lastId l i < (keyAt l i).id)]; simp, h0, h1⟩)
    · by_cases h2 : 2147483647 < (keyAt l i).id
      · exact .inr (.inr (.inl ⟨by rw [decide_eq_false (by omega : ¬ (keyAt l i).id ≤ 2147483647)]; simp, h0, h1, h2⟩))
      · exact .inr (.inr (.inr ⟨by rw [h0, decide_eq_true (by omega : lastId l i < (keyAt l i).id), decide_eq_true (by omega : (keyAt l i).id ≤ 2147483647)]; rfl, h0, h1, h2⟩))
  · have h0' : validK (keyAt l i) = false := by simpa using h0
    exact .inl ⟨by rw [h0']; rfl, h0'⟩
theorem allB_false (l : List K) (i : Nat) (hi : i < l.length) (h : okB l i = false) : (List.range l.length).all (okB l) = false := by
  rw [List.all_eq_false]
  exact ⟨i, List.mem_range.2 hi, by rw [h]; decide⟩
theorem allB_true (l : List K) (h : ∀ j, j < l.length → okB l j = true) : (List.range l.length).all (okB l) = true :=
  List.all_eq_true.2 (fun i hi => h i (List.mem_range.1 hi))
theorem headB_parts (b : BK) (l : List K) :
    (headB b l = true ∧ win b.ep 0 2147483647 = true ∧ win b.num 0 2147483647 = true ∧ win b.fw 0 2147483647 = true ∧ win b.tm 0 1099511627776 = true ∧ ¬ (b.mo.length : Int) < 1 ∧ ¬ 12 < (b.mo.length : Int) ∧ ¬ 4096 < (l.length : Int)) ∨
    (headB b l = false ∧ win b.ep 0 2147483647 = false) ∨
    (headB b l = false ∧ win b.ep 0 2147483647 = true ∧ win b.num 0 2147483647 = false) ∨
    (headB b l = false ∧ win b.ep 0 2147483647 = true ∧ win b.num 0 2147483647 = true ∧ win b.fw 0 2147483647 = false) ∨
    (headB b l = false ∧ win b.ep 0 2147483647 = true ∧ win b.num 0 2147483647 = true ∧ win b.fw 0 2147483647 = true ∧ win b.tm 0 1099511627776 = false) ∨
    (headB b l = false ∧ win b.ep 0 2147483647 = true ∧ win b.num 0 2147483647 = true ∧ win b.fw 0 2147483647 = true ∧ win b.tm 0 1099511627776 = true ∧ (b.mo.length : Int) < 1) ∨
    (headB b l = false ∧ win b.ep 0 2147483647 = true ∧ win b.num 0 2147483647 = true ∧ win b.fw 0 2147483647 = true ∧ win b.tm 0 1099511627776 = true ∧ ¬ (b.mo.length : Int) < 1 ∧ 12 < (b.mo.length : Int)) ∨
    (headB b l = false ∧ win b.ep 0 2147483647 = true ∧ win b.num 0 2147483647 = true ∧ win b.fw 0 2147483647 = true ∧ win b.tm 0 1099511627776 = true ∧ ¬ (b.mo.length : Int) < 1 ∧ ¬ 12 < (b.mo.length : Int) ∧ 4096 < (l.length : Int)) := by
  unfold headB
  cases h1 : win b.ep 0 2147483647
  · simp
  cases h2 : win b.num 0 2147483647
  · simp
  cases h3 : win b.fw 0 2147483647
  · simp
  cases h4 : win b.tm 0 1099511627776
  · simp
  by_cases h5 : (b.mo.length : Int) < 1
  · have : ¬ 1 ≤ b.mo.length := by omega
    simp [h5, this]
  by_cases h6 : 12 < (b.mo.length : Int)
  · have : ¬ b.mo.length ≤ 12 := by omega
    simp [h5, h6, this]
  by_cases h7 : 4096 < (l.length : Int)
  · have : ¬ l.length ≤ 4096 := by omega
    simp [h5, h6, h7, this]
  have a5 : 1 ≤ b.mo.length := by omega
  have a6 : b.mo.length ≤ 12 := by omega
  have a7 : l.length ≤ 4096 := by omega
  simp [h5, h6, h7, a5, a6, a7]
attribute [local irreducible] Calls alikeK twinId twinIs validB okB validK lastId win headB
end Go.Proofs.YtbpjdfnnlmblaaaDoor
/- The program's test of backups. -/
namespace Go.Proofs.YtbpjdfnnlmblaaaDoor
open Go.RowKit Go.Shelf
set_option linter.unusedSimpArgs false
set_option linter.unusedVariables false
theorem bi3 (w : World) (a b c : Int) : RdI (w.alloc (.cells #[.int .i64 a, .int .i64 b, .int .i64 c] 3)) (.slice (some ⟨w.heap.size, 0, none⟩) 3 3) [a, b, c] := built_i w [a, b, c] (by simp)
theorem bi1 (w : World) (a : Int) : RdI (w.alloc (.cells #[.int .i64 a] 3)) (.slice (some ⟨w.heap.size, 0, none⟩) 1 1) [a] := built_i w [a] (by simp)
def r1 (b : BK) : Bool := [b.ep, b.num, b.fw].all (fun n => win n 0 2147483647)
def r2 (b : BK) : Bool := [b.tm].all (fun n => win n 0 1099511627776)
def r3 (b : BK) : Bool := [(b.mo.length : Int) - 1].all (fun n => win n 0 11)
theorem headC (b : BK) (l : List K) : (headB b l = true ∧ r1 b = true ∧ r2 b = true ∧ r3 b = true ∧ (l.length : Int) ≤ 4096) ∨ (headB b l = false ∧ r1 b = false) ∨ (headB b l = false ∧ r1 b = true ∧ r2 b = false) ∨
    (headB b l = false ∧ r1 b = true ∧ r2 b = true ∧ r3 b = false) ∨ (headB b l = false ∧ r1 b = true ∧ r2 b = true ∧ r3 b = true ∧ ¬ (l.length : Int) ≤ 4096) := by
  have h3 : r3 b = (decide (1 ≤ b.mo.length) && decide (b.mo.length ≤ 12)) := by
    unfold r3 win
    simp only [List.all_cons, List.all_nil, Bool.and_true]
    congr 1 <;> rw [decide_eq_decide] <;> omega
  have hh : headB b l = (r1 b && r2 b && r3 b && decide (l.length ≤ 4096)) := by
    rw [h3]
    unfold headB r1 r2
    simp only [List.all_cons, List.all_nil, Bool.and_true, Bool.and_assoc]
  rw [hh]
  cases r1 b
  · simp
  cases r2 b
  · simp
  cases r3 b
  · simp
  by_cases h : l.length ≤ 4096
  · have : (l.length : Int) ≤ 4096 := by omega
    simp [h, this]
  · have : ¬ (l.length : Int) ≤ 4096 := by omega
    simp [h, this]
attribute [local irreducible] Calls alikeK twinId twinIs validB okB validK lastId win headB r1 r2 r3
set_option maxRecDepth 100000 in
set_option maxHeartbeats 4000000 in
theorem validB_c (b : BK) (u : Value) (l : List K) (w : World) (hv : RdK w u l) (hwf : ∀ i, i < l.length → (keyAt l i).wf) (hmo : b.mo.length ≤ maxLen) :
    Calls Tryd.prog 24 #[.agg (bc b u)] w fun e w' => e = .returned (.bool (validB b l)) ∧ Below w.heap.size w w' := by
  have hlen := hv.len
  unfold maxLen at hlen hmo
  obtain ⟨W0, hW0⟩ : ∃ W0, W0 = w.alloc (.cells (bc b u) 26) := ⟨_, rfl⟩
  have hvw : RdK W0 u l := by rw [hW0]; exact hv.alloc _
  have hbx : ∀ w1, Below W0.heap.size W0 w1 → w1.cell? ⟨w.heap.size, 37, none⟩ = some u ∧ w1.cell? ⟨w.heap.size, 16, none⟩ = some (.int .i64 b.ep) ∧ w1.cell? ⟨w.heap.size, 17, none⟩ = some (.int .i64 b.num) ∧
      w1.cell? ⟨w.heap.size, 18, none⟩ = some (.int .i64 b.fw) ∧ w1.cell? ⟨w.heap.size, 19, none⟩ = some (.int .i64 b.tm) ∧ w1.cell? ⟨w.heap.size, 36, none⟩ = some (.string ⟨b.mo.toArray⟩) := by
    intro w1 h
    rw [hW0] at h
    exact ⟨(boxed1 _ _ _ h 37).trans (bc_37 b u), (boxed1 _ _ _ h 16).trans (bc_16 b u), (boxed1 _ _ _ h 17).trans (bc_17 b u), (boxed1 _ _ _ h 18).trans (bc_18 b u), (boxed1 _ _ _ h 19).trans (bc_19 b u), (boxed1 _ _ _ h 36).trans (bc_36 b u)⟩
  have hbe : ∀ w1, Below W0.heap.size W0 w1 → Below w.heap.size w w1 := by
    intro w1 h
    rw [hW0] at h
    exact below1 _ _ h
  have hsz : w.heap.size < W0.heap.size := by rw [hW0]; simp
  have HV := Lib.hid hvw
  have HBX := Lib.hid hbx
  have HBE := Lib.hid hbe
  have HW := Lib.hid hW0
  have HWF := Lib.hid hwf
  have hve : validB b l = (headB b l && (List.range l.length).all (okB l)) := by unfold validB; rfl
  rw [hve]
  have HT0 := Lib.hid (fun i hi h => allB_false l i hi h)
  have HT1 := Lib.hid (allB_true l)
  have HHC := Lib.hid (headC b l)
  have mw : IntKind.i64.wrap ((b.mo.length : Int) - 1) = (b.mo.length : Int) - 1 := by rw [IntKind.wrap_i64]; omega
  have HE1 : Hid ([b.ep, b.num, b.fw].all (fun n => win n 0 2147483647) = r1 b) := Lib.hid (by unfold r1; rfl)
  have HE2 : Hid ([b.tm].all (fun n => win n 0 1099511627776) = r2 b) := Lib.hid (by unfold r2; rfl)
  have HE3 : Hid ([(b.mo.length : Int) - 1].all (fun n => win n 0 11) = r3 b) := Lib.hid (by unfold r3; rfl)
  obtain ⟨a, cap, rfl, _, _, _⟩ := hv
  clear hW0 hvw hbx hbe hve hwf
  go_enter Tryd.func24, Tryd.ntmps24
  go_wp2
  go_loopw [3, 9] (fun la o wr => ∃ i : Nat, i ≤ l.length ∧ o = .int .i64 i ∧ la = .int .i64 (lastId l i) ∧ Hid (∀ j, j < i → okB l j = true) ∧ Below W0.heap.size W0 wr) (fun _ o _ => l.length - (intOf o).toNat)
  case atStart => exact ⟨0, Nat.zero_le _, rfl, by rw [lastId_zero], Lib.hid (fun j hj => absurd hj (by omega)), by rw [← HW.out]; exact Below.refl _ _⟩
  case round =>
    obtain ⟨i, hi, rfl, rfl, hno, hb⟩ := hrel
    obtain ⟨t1, t16, t17, t18, t19, t36⟩ := HBX.out wr hb
    have hbs := hb.size
    have z0 : w.heap.size < wr.heap.size := by omega
    have z0' : w.heap.size ≠ wr.heap.size := by omega
    by_cases hlt : i < l.length
    · obtain ⟨bb, off, rfl, hbl, hrow⟩ := ((HV.out.on hb).cells) (by omega)
      obtain ⟨d0, d1, d2, d3, d4, d5, d6, d7, d8⟩ := hrow i hlt
      have i1 : (i : Int) < l.length := by omega
      have HK := Lib.hid hlt
      have HNO := hno
      have HB := Lib.hid hb
      have hval := valid_c (keyAt l i) (HWF.out i hlt) (wr.alloc (.cells (kc (keyAt l i)) 48))
      have hbx2 : ∀ w1, Below (wr.alloc (.cells (kc (keyAt l i)) 48)).heap.size (wr.alloc (.cells (kc (keyAt l i)) 48)) w1 →
          w1.cell? ⟨wr.heap.size, 0, none⟩ = some (.int .i64 (keyAt l i).id) ∧ Below W0.heap.size W0 w1 := by
        intro w1 h
        exact ⟨boxed1 _ _ _ h 0, HB.out.trans ((below1 _ _ h).mono hbs)⟩
      unfold kv at hval
      unfold kc at hval hbx2
      have HLS := Lib.hid (lastId_succ l i)
      have HX2 := Lib.hid hbx2
      clear hrow hb hno hbx2
      rcases okB_four l i with ⟨ho, h1⟩ | ⟨ho, h1, h2⟩ | ⟨ho, h1, h2, h3⟩ | ⟨ho, h1, h2, h3⟩
      case inr.inr.inr =>
        rw [h1] at hval
        have HVAL := Lib.hid hval
        have HO := Lib.hid ho
        clear hval h1 ho
        go_wp2_with (go_at_call 52; refine HVAL.out.mono ?_; rintro e w1 ⟨rfl, hb'⟩; obtain ⟨e0, hbb⟩ := HX2.out _ hb'; clear hb')
        go_roundw
        case rel => exact ⟨i + 1, HK.out, by go_num, by rw [HLS.out], Lib.hid (fun j hj => by
          by_cases e : j = i
          · subst e; exact HO.out
          · exact HNO.out j (by omega)), hbb⟩
        case measure => have := HK.out; simp [intOf]; omega
      all_goals
        have HRES := Lib.hid (HT0.out i HK.out ho)
        rw [h1] at hval
        have HVAL := Lib.hid hval
        clear hval h1 ho
        go_wp2_with (go_at_call 52; refine HVAL.out.mono ?_; rintro e w1 ⟨rfl, hb'⟩; obtain ⟨e0, hbb⟩ := HX2.out _ hb'; clear hb')
        go_ret
        exact ⟨by rw [HRES.out, Bool.and_false]; rfl, HBE.out _ hbb⟩
    · have he : i = l.length := by omega
      have i1 : (l.length : Int) ≤ i := by omega
      have HRES := Lib.hid (HT1.out (fun j hj => hno.out j (by omega)))
      have HB := hb
      have tok2 : True := trivial
      clear hno he
      rcases HHC.out with ⟨hh, f1, f2, f3, f4⟩ | ⟨hh, f1⟩ | ⟨hh, f1, f2⟩ | ⟨hh, f1, f2, f3⟩ | ⟨hh, f1, f2, f3, f4⟩
      all_goals
        have HH := Lib.hid hh
        clear hh
        go_wp2_with (first
          | (go_at_call 53; refine (within_b _ _ _ _ (bi3 _ _ _ _)).mono ?_; rw [HE1.out]; rintro e w1 ⟨rfl, hb'⟩; replace HB := HB.trans ((below1 _ _ hb').mono HB.size); obtain ⟨t1, t16, t17, t18, t19, t36⟩ := HBX.out _ HB; clear hb')
          | (go_at_call 53; clear tok2; refine (within_b _ _ _ _ (bi1 _ _)).mono ?_; rw [HE2.out]; rintro e w2 ⟨rfl, hb'⟩; replace HB := HB.trans ((below1 _ _ hb').mono HB.size); obtain ⟨t1, t16, t17, t18, t19, t36⟩ := HBX.out _ HB; clear hb')
          | (go_at_call 53; refine (within_b _ _ _ _ (bi1 _ _)).mono ?_; rw [HE3.out]; rintro e w3 ⟨rfl, hb'⟩; replace HB := HB.trans ((below1 _ _ hb').mono HB.size); obtain ⟨t1, t16, t17, t18, t19, t36⟩ := HBX.out _ HB; clear hb'))
        go_ret
        exact ⟨by rw [HRES.out, Bool.and_true, HH.out]; first | rfl | exact ret_bool (decide_eq_false (by omega)) | exact ret_bool (decide_eq_true (by omega)), HBE.out _ HB⟩
end Go.Proofs.YtbpjdfnnlmblaaaDoor
