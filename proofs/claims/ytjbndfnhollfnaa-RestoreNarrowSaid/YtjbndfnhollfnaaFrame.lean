/- What the frames of the laws share. -/
import Derived.Test.YtjbndfnhollfnaaRows
import Derived.Test.YtjbndfnhollfnaaBase
import Derived.ProofKit
import Derived.OpenShut
import Derived.ShutString
import Derived.ChangeOld
import Derived.Below
namespace Go.Proofs.Ytjbndfnhollfnaa
theorem Try.own : ownKnob Try.prog.godebug = none := by kernel_rfl
theorem Try.laidOut : laidOutB Try.prog = true := by kernel_rfl
theorem str_of (a : ByteArray) : ∃ l : List UInt8, a = ⟨l.toArray⟩ := ⟨a.data.toList, by simp⟩
theorem u32_of {a : Int} (h : (Lit.int .u32 a).wf = true) : ∃ c : UInt32, a = W32 c := by
  simp only [Lit.wf, Bool.and_eq_true, decide_eq_true_eq] at h
  have h1 : (0 : Int) ≤ a := h.1
  have h2 : a ≤ 4294967295 := h.2
  refine ⟨UInt32.ofNat a.toNat, ?_⟩
  unfold W32
  rw [UInt32.toNat_ofNat_of_lt' (by show a.toNat < 4294967296; omega)]
  omega
theorem u32_nat (n : Nat) (h : n < 4294967296) : IntKind.u32.wrap (n : Int) = W32 (UInt32.ofNat n) := by
  rw [IntKind.wrap_u32]
  unfold W32
  rw [UInt32.toNat_ofNat_of_lt' (by show n < 4294967296; omega)]
  omega
theorem i64_of {a : Int} (h : (Lit.int .i64 a).wf = true) : -9223372036854775808 ≤ a ∧ a ≤ 9223372036854775807 := by
  simp only [Lit.wf, Bool.and_eq_true, decide_eq_true_eq] at h
  exact h
end Go.Proofs.Ytjbndfnhollfnaa
