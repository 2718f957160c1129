/- Contracts and lemmas. No condition. -/
import Derived.Test.YtmfiaadjdbemnaaGreatDoorSB03
set_option maxRecDepth 100000
set_option maxHeartbeats 8000000
set_option linter.unusedSimpArgs false
set_option linter.unusedVariables false
namespace Go.Proofs.YtmfiaadjdbemnaaGreatDoor
open Tryz
section
theorem BH (m:List UInt8):(gj m).length % 64=0:=by
 unfold gj kS be8;simp only[E_,List.length_replicate,List.length_map,List.length_range,List.length_singleton]
 omega
open Go.RowKit
attribute [local irreducible] Calls
theorem kQ (x:UInt32) (k:Int) (hk1:0≤k) (hk2:k<32) (w:World) :
  Calls prog 163 #[.int .u32 (W32 x),.int .i64 k] w fun e w'=>e = .returned (.int .u32 (W32 (rr x k.toNat)))∧∃n,w'=w.drewN n:=by
 obtain⟨n,rfl⟩:=Int.eq_ofNat_of_zero_le hk1;have e1:=iu x n;have e2:=jY x (32-n)
 go_enter func163,ntmps163
 go_wp2
 go_quiet (fail)
 go_wp2;go_ret;exact⟨nT rfl,_,rfl⟩
end
end Go.Proofs.YtmfiaadjdbemnaaGreatDoor
