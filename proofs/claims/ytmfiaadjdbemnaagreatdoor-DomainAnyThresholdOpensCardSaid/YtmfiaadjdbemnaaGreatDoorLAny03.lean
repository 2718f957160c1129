/- Contracts and lemmas. No condition. -/
import Derived.Test.YtmfiaadjdbemnaaGreatDoorSB01
import Derived.ChangeOld
import Derived.OpenShut
import Derived.ProofKit
import Derived.ShutString
import Derived.Test.YtmfiaadjdbemnaaGreatDoorRows
namespace Go.Proofs.YtmfiaadjdbemnaaGreatDoor
section
theorem Tryz.own:ownKnob Tryz.prog.godebug=none:=by kernel_rfl
theorem Tryz.laidOut:laidOutB Tryz.prog=true:=by kernel_rfl
theorem vW (a:ByteArray):∃l:List UInt8,a=⟨l.toArray⟩:=⟨a.data.toList,by simp⟩
theorem J1 {a:Int} (h:(Lit.int .i64 a).wf=true) : -9223372036854775808≤a∧a≤9223372036854775807:=by
 simp only[Lit.wf,Bool.and_eq_true,decide_eq_true_eq] at h;exact h
end
end Go.Proofs.YtmfiaadjdbemnaaGreatDoor
