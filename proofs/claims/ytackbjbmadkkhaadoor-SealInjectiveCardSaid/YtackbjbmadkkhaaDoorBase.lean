/- Small laws that every proof of this seat leans on: bytes and words as the walk's numbers. -/
import Derived.WalkKit
import Derived.WalkSpells
import Derived.WalkLawsBesides
import Derived.Deep.QuietTactic
import Derived.BigQuiet
import Derived.Deep.RegionWith
import Derived.StillTailTactics
import Derived.Deep.RegionHeld3
import Derived.Lib.Hide
namespace Go.Proofs.YtackbjbmadkkhaaDoor
open Go.RowKit
set_option linter.unusedSimpArgs false

/-- a byte as a number of the walk's -/
def B8 (x : UInt8) : Int := (x.toNat : Int)
/-- a word as a number of the walk's -/
def W32 (x : UInt32) : Int := (x.toNat : Int)
theorem u8_lo (x : UInt8) : 0 ≤ B8 x := Int.natCast_nonneg _
theorem u8_hi (x : UInt8) : B8 x < 256 := by unfold B8; have := x.toNat_lt; omega
theorem u32_lo (x : UInt32) : 0 ≤ W32 x := Int.natCast_nonneg _
theorem u32_hi (x : UInt32) : W32 x < 4294967296 := by unfold W32; have := x.toNat_lt; omega
theorem u8_inj {x y : UInt8} (h : B8 x = B8 y) : x = y := UInt8.toNat_inj.1 (by unfold B8 at h; omega)
theorem u32_inj {x y : UInt32} (h : W32 x = W32 y) : x = y := UInt32.toNat_inj.1 (by unfold W32 at h; omega)

/-! bytes -/
/-- the byte at a place -/
def byteAt (l : List UInt8) (i : Nat) : UInt8 := l.getD i 0
@[go_sem] theorem byte_at (l : List UInt8) (i : Nat) (h : i < (ByteArray.mk l.toArray).size) : ((ByteArray.mk l.toArray)[i].toNat : Int) = B8 (byteAt l i) := by
  have h' : i < l.length := h
  have : (ByteArray.mk l.toArray)[i] = l[i] := rfl
  rw [this, B8, byteAt, List.getD_eq_getElem?_getD, List.getElem?_eq_getElem h', Option.getD_some]
@[go_sem] theorem u8_as_u32' (x : UInt8) : B8 x % 4294967296 = W32 x.toUInt32 := by
  have := u8_lo x; have := u8_hi x
  rw [Int.emod_eq_of_lt (by omega) (by omega)]; simp [B8, W32]
@[go_sem] theorem u8_as_u32 (x : UInt8) : IntKind.u32.wrap (B8 x) = W32 x.toUInt32 := by rw [IntKind.wrap_u32]; exact u8_as_u32' x
@[go_sem] theorem u32_as_u8' (x : UInt32) : W32 x % 256 = B8 x.toUInt8 := by simp [B8, W32]
@[go_sem] theorem u32_as_u8 (x : UInt32) : IntKind.u8.wrap (W32 x) = B8 x.toUInt8 := by rw [IntKind.wrap_u8]; exact u32_as_u8' x
@[go_sem] theorem u8_xor_u8 (x y : UInt8) : bits .xor .u8 (B8 x) (B8 y) = B8 (x ^^^ y) := by
  unfold B8; rw [u8_xor_nat _ _ x.toNat_lt y.toNat_lt]; simp
@[go_sem] theorem u8_or_u8 (x y : UInt8) : bits .or .u8 (B8 x) (B8 y) = B8 (x ||| y) := by
  unfold B8; rw [u8_or_nat _ _ x.toNat_lt y.toNat_lt]; simp
@[go_sem] theorem u8_and_u8 (x y : UInt8) : bits .and .u8 (B8 x) (B8 y) = B8 (x &&& y) := by
  unfold B8; rw [u8_and_nat _ _ x.toNat_lt y.toNat_lt]; simp

@[go_sem] theorem extract_go (l : List UInt8) (a b : Nat) : (ByteArray.mk l.toArray).extract a b = ⟨((l.drop a).take (b - a)).toArray⟩ := ByteArray.extract_mk l a b
theorem byteAt_take_drop (l : List UInt8) (a n i : Nat) (h : i < n) : byteAt ((l.drop a).take n) i = byteAt l (a + i) := by
  unfold byteAt; simp [List.getD_eq_getElem?_getD, List.getElem?_take, h, List.getElem?_drop]

/-! words -/
@[go_sem] theorem u32_add' (x y : UInt32) : (W32 x + W32 y) % 4294967296 = W32 (x + y) := by simp [W32]
@[go_sem] theorem u32_add (x y : UInt32) : IntKind.u32.wrap (W32 x + W32 y) = W32 (x + y) := by rw [IntKind.wrap_u32]; exact u32_add' x y
@[go_sem] theorem u32_add_one' (x : UInt32) : (W32 x + 1) % 4294967296 = W32 (x + 1) := u32_add' x 1
@[go_sem] theorem u32_add_one (x : UInt32) : IntKind.u32.wrap (W32 x + 1) = W32 (x + 1) := by rw [IntKind.wrap_u32]; exact u32_add_one' x
theorem u32_sub' (x y : UInt32) : (W32 x - W32 y) % 4294967296 = W32 (x - y) := by
  have h1 := x.toNat_lt; have h2 := y.toNat_lt
  simp only [W32, UInt32.toNat_sub]
  omega
attribute [go_sem] u32_sub'
@[go_sem] theorem u32_sub (x y : UInt32) : IntKind.u32.wrap (W32 x - W32 y) = W32 (x - y) := by rw [IntKind.wrap_u32]; exact u32_sub' x y
@[go_sem] theorem u32_xor_u32 (x y : UInt32) : bits .xor .u32 (W32 x) (W32 y) = W32 (x ^^^ y) := by
  unfold W32; rw [u32_xor_nat _ _ x.toNat_lt y.toNat_lt]; simp
@[go_sem] theorem u32_or_u32 (x y : UInt32) : bits .or .u32 (W32 x) (W32 y) = W32 (x ||| y) := by
  unfold W32; rw [u32_or_nat _ _ x.toNat_lt y.toNat_lt]; simp
@[go_sem] theorem u32_and_u32 (x y : UInt32) : bits .and .u32 (W32 x) (W32 y) = W32 (x &&& y) := by
  unfold W32; rw [u32_and_nat _ _ x.toNat_lt y.toNat_lt]; simp
/-- a shift to the left -/
def shl (x : UInt32) (n : Nat) : UInt32 := ⟨x.toBitVec <<< n⟩
/-- a shift to the right -/
def shr (x : UInt32) (n : Nat) : UInt32 := ⟨x.toBitVec >>> n⟩
theorem u32_shl' (x : UInt32) (n : Nat) : W32 x * 2 ^ n % 4294967296 = W32 (shl x n) := by
  have : (shl x n).toNat = x.toNat * 2 ^ n % 4294967296 := by
    show (x.toBitVec <<< n).toNat = _
    rw [BitVec.toNat_shiftLeft, Nat.shiftLeft_eq]; rfl
  unfold W32; rw [this, Int.natCast_emod, Int.natCast_mul, Int.natCast_pow]; rfl
theorem u32_shr' (x : UInt32) (n : Nat) : W32 x / 2 ^ n = W32 (shr x n) := by
  have : (shr x n).toNat = x.toNat / 2 ^ n := by
    show (x.toBitVec >>> n).toNat = _
    rw [BitVec.toNat_ushiftRight, Nat.shiftRight_eq_div_pow]; rfl
  unfold W32; rw [this, Int.natCast_ediv, Int.natCast_pow]; rfl
@[go_sem] theorem u32_shl8 (x : UInt32) : W32 x * 256 % 4294967296 = W32 (shl x 8) := u32_shl' x 8
@[go_sem] theorem u32_shl16 (x : UInt32) : W32 x * 65536 % 4294967296 = W32 (shl x 16) := u32_shl' x 16
@[go_sem] theorem u32_shl24 (x : UInt32) : W32 x * 16777216 % 4294967296 = W32 (shl x 24) := u32_shl' x 24
@[go_sem] theorem u32_shr8 (x : UInt32) : W32 x / 256 = W32 (shr x 8) := u32_shr' x 8
@[go_sem] theorem u32_shr16 (x : UInt32) : W32 x / 65536 = W32 (shr x 16) := u32_shr' x 16
@[go_sem] theorem u32_shr24 (x : UInt32) : W32 x / 16777216 = W32 (shr x 24) := u32_shr' x 24

/-! draws outermost -/
@[go_sem] theorem setCell_drewN (w : World) (n : Nat) (a : Addr) (v : Value) : (w.drewN n).setCell a v = (w.setCell a v).drewN n := rfl
@[go_sem] theorem setRow_drewN (w : World) (n g : Nat) (cs : Array Value) : (w.drewN n).setRow g cs = (w.setRow g cs).drewN n := rfl
@[go_sem] theorem alloc_drewN (w : World) (n : Nat) (o : Obj) : (w.drewN n).alloc o = (w.alloc o).drewN n := rfl
theorem below_drewN {B : Nat} {a w : World} (n : Nat) (h : Below B a w) : Below B a (w.drewN n) := ⟨h.os, h.tape, h.output, h.size, h.block⟩

/-! endings -/
theorem ret_int {k : IntKind} {a b : Int} (h : a = b) : Ending.returned (.int k a) = .returned (.int k b) := by rw [h]
theorem ret_u32 {a b : UInt32} (h : a = b) : Ending.returned (.int .u32 (W32 a)) = .returned (.int .u32 (W32 b)) := by rw [h]
theorem ret_u8 {a b : UInt8} (h : a = b) : Ending.returned (.int .u8 (B8 a)) = .returned (.int .u8 (B8 b)) := by rw [h]
theorem ret_bool {a b : Bool} (h : a = b) : Ending.returned (.bool a) = .returned (.bool b) := by rw [h]
end Go.Proofs.YtackbjbmadkkhaaDoor
