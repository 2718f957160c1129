/- Keys of tables as the walk's values; numbers within bounds. -/
import Derived.Test.YtjbndfnhollfnaaRegion
import Derived.Test.YtjbndfnhollfnaaBase
import Derived.Test.YtjbndfnhollfnaaChecked
namespace Go.Proofs.Ytjbndfnhollfnaa
open Go.RowKit
set_option linter.unusedSimpArgs false
set_option linter.unusedVariables false
/-- a key -/
structure K where
  id : Int
  ty : Int
  val : List UInt8
  uses : Int
  start : Int
  fin : Int
  ver : Int
  par : Int
  raw : Bool
deriving DecidableEq
instance : Inhabited K := ⟨⟨0, 0, [], 0, 0, 0, 0, 0, false⟩⟩
/-- its cells -/
def kc (k : K) : Array Value := #[.int .i64 k.id, .int .i64 k.ty, .string ⟨k.val.toArray⟩, .int .i64 k.uses, .int .i64 k.start, .int .i64 k.fin, .int .i64 k.ver, .int .i64 k.par, .bool k.raw]
def kv (k : K) : Value := .agg (kc k)
def win (n lo hi : Int) : Bool := decide (lo ≤ n) && decide (n ≤ hi)
theorem win_ref (n lo hi : Int) (w : World) : Calls Try.prog 21 #[.int .i64 n, .int .i64 lo, .int .i64 hi] w fun e w' => e = .returned (.bool (win n lo hi)) ∧ w' = w := by
  unfold win
  by_cases h1 : lo ≤ n
  · by_cases h2 : n ≤ hi
    · go_enter Try.func21, Try.ntmps21
      go_wp2
      go_ret
      simp [h1, h2]
    · go_enter Try.func21, Try.ntmps21
      go_wp2
      go_ret
      simp [h1, h2]
  · go_enter Try.func21, Try.ntmps21
    go_wp2
    go_ret
    refine ⟨?_, rfl⟩
    rw [decide_eq_false (by omega : ¬ lo ≤ n)]
    rfl
theorem win_c (n lo hi : Int) (w : World) : Calls Try.prog 48 #[.int .i64 n, .int .i64 lo, .int .i64 hi] w fun e w' => e = .returned (.bool (win n lo hi)) ∧ w' = w := by
  unfold win
  by_cases h1 : lo ≤ n
  · by_cases h2 : n ≤ hi
    · go_enter Try.func48, Try.ntmps48
      go_wp2
      go_ret
      simp [h1, h2]
    · go_enter Try.func48, Try.ntmps48
      go_wp2
      go_ret
      simp [h1, h2]
  · go_enter Try.func48, Try.ntmps48
    go_wp2
    go_ret
    refine ⟨?_, rfl⟩
    rw [decide_eq_false (by omega : ¬ lo ≤ n)]
    rfl
/-- the uses are among those that there are -/
def usesOK (u : Int) : Bool := bits .and .i64 u 956 == u
def validK (k : K) : Bool := win k.ty 0 31 && ((k.val.length : Int) == 32) && usesOK k.uses && win k.start 0 1099511627776 && win k.fin k.start 1099511627776 && win k.ver 1 2147483647 && win k.par 0 2147483647
attribute [local irreducible] win Calls
set_option maxHeartbeats 1000000 in
theorem valid_ref (k : K) (w : World) : Calls Try.prog 22 #[kv k] w fun e w' => e = .returned (.bool (validK k)) ∧ Below w.heap.size w w' := by
  unfold kv kc
  have hb := (Below.refl w.heap.size w).alloc (Nat.le_refl _) (.cells #[.int .i64 k.id, .int .i64 k.ty, .string ⟨k.val.toArray⟩, .int .i64 k.uses, .int .i64 k.start, .int .i64 k.fin, .int .i64 k.ver, .int .i64 k.par, .bool k.raw] 30)
  have HB := Lib.hid hb
  clear hb
  go_enter Try.func22, Try.ntmps22
  go_wp2_with (go_at_call 21; refine (win_ref _ _ _ _).mono ?_; rintro e _ ⟨rfl, rfl⟩)
  all_goals
    go_ret
    refine ⟨?_, HB.out⟩
    simp_all [validK, usesOK]
theorem wrap_toNat_inj {X Y : BitVec 64} (h : IntKind.i64.wrap (X.toNat : Int) = IntKind.i64.wrap (Y.toNat : Int)) : X = Y := by
  rw [IntKind.wrap_i64, IntKind.wrap_i64] at h
  have h1 := X.isLt
  have h2 := Y.isLt
  apply BitVec.eq_of_toNat_eq
  omega
theorem mask_iff (A M : BitVec 64) : A &&& ~~~M = 0 ↔ A &&& M = A := by
  constructor
  · intro h
    apply BitVec.eq_of_getLsbD_eq
    intro i hi
    have := congrArg (fun X => X.getLsbD i) h
    simp only [BitVec.getLsbD_and, BitVec.getLsbD_not, BitVec.getLsbD_zero, hi, decide_true, Bool.true_and] at this ⊢
    generalize A.getLsbD i = x at this ⊢
    generalize M.getLsbD i = y at this ⊢
    clear h hi
    revert this
    cases x <;> cases y <;> simp
  · intro h
    apply BitVec.eq_of_getLsbD_eq
    intro i hi
    have := congrArg (fun X => X.getLsbD i) h
    simp only [BitVec.getLsbD_and, BitVec.getLsbD_not, BitVec.getLsbD_zero, hi, decide_true, Bool.true_and] at this ⊢
    generalize A.getLsbD i = x at this ⊢
    generalize M.getLsbD i = y at this ⊢
    clear h hi
    revert this
    cases x <;> cases y <;> simp
/-- the same test in the program's words -/
theorem uses_not (u : Int) (h : IntKind.i64.wrap u = u) : (bits .andNot .i64 u 956 == 0) = usesOK u := by
  have e1 : bits .andNot .i64 u 956 = IntKind.i64.wrap ((BitVec.ofInt 64 u &&& ~~~BitVec.ofInt 64 956).toNat : Int) := rfl
  have e2 : bits .and .i64 u 956 = IntKind.i64.wrap ((BitVec.ofInt 64 u &&& BitVec.ofInt 64 956).toNat : Int) := rfl
  have e3 : IntKind.i64.wrap ((BitVec.ofInt 64 u).toNat : Int) = u := by
    rw [IntKind.wrap_i64] at h ⊢
    rw [BitVec.toNat_ofInt]
    omega
  have key : (bits .andNot .i64 u 956 = 0) ↔ (bits .and .i64 u 956 = u) := by
    rw [e1, e2]
    constructor
    · intro h0
      have hz : BitVec.ofInt 64 u &&& ~~~BitVec.ofInt 64 956 = 0 := wrap_toNat_inj (by rw [h0]; rfl)
      rw [(mask_iff _ _).1 hz, e3]
    · intro h0
      have hz : BitVec.ofInt 64 u &&& BitVec.ofInt 64 956 = BitVec.ofInt 64 u := wrap_toNat_inj (by rw [h0, e3])
      rw [(mask_iff _ _).2 hz]; rfl
  unfold usesOK
  by_cases hk : bits .and .i64 u 956 = u
  · rw [beq_iff_eq.2 hk, beq_iff_eq.2 (key.2 hk)]
  · rw [beq_eq_false_iff_ne.2 hk, beq_eq_false_iff_ne.2 (fun e => hk (key.1 e))]
/-- the program's order of the tests -/
def validC (k : K) : Bool := win k.ty 0 31 && ((k.val.length : Int) == 32) && usesOK k.uses && win k.start 0 k.fin && win k.fin 0 1099511627776 && win k.ver 1 2147483647 && win k.par 0 2147483647
theorem win_iff (n lo hi : Int) : win n lo hi = true ↔ lo ≤ n ∧ n ≤ hi := by unfold win; simp
theorem valid_eq (k : K) : validC k = validK k := by
  unfold validC validK
  have : (win k.start 0 k.fin && win k.fin 0 1099511627776) = (win k.start 0 1099511627776 && win k.fin k.start 1099511627776) := by
    rw [Bool.eq_iff_iff]
    simp only [Bool.and_eq_true, win_iff]
    omega
  simp only [Bool.and_assoc]
  rw [← Bool.and_assoc (win k.start 0 k.fin), ← Bool.and_assoc (win k.start 0 1099511627776), this]
/-- the numbers fit the machine's -/
structure K.wf (k : K) : Prop where
  id : IntKind.i64.wrap k.id = k.id
  uses : IntKind.i64.wrap k.uses = k.uses
set_option maxHeartbeats 1000000 in
theorem valid_c (k : K) (hk : k.wf) (w : World) : Calls Try.prog 40 #[kv k] w fun e w' => e = .returned (.bool (validK k)) ∧ Below w.heap.size w w' := by
  rw [← valid_eq]
  unfold kv kc
  have hu := uses_not k.uses hk.uses
  have hb := (Below.refl w.heap.size w).alloc (Nat.le_refl _) (.cells #[.int .i64 k.id, .int .i64 k.ty, .string ⟨k.val.toArray⟩, .int .i64 k.uses, .int .i64 k.start, .int .i64 k.fin, .int .i64 k.ver, .int .i64 k.par, .bool k.raw] 30)
  have HB := Lib.hid hb
  have HU := Lib.hid hu
  clear hb hu
  go_enter Try.func40, Try.ntmps40
  go_wp2_with (go_at_call 48; refine (win_c _ _ _ _).mono ?_; rintro e _ ⟨rfl, rfl⟩)
  all_goals
    go_ret
    refine ⟨?_, HB.out⟩
    unfold validC
    rw [← HU.out]
    simp_all
end Go.Proofs.Ytjbndfnhollfnaa
