/- Contracts and lemmas. No condition. -/
import Derived.Test.YtmfiaadjdbemnaaGreatDoorSB22
import Derived.Test.YtmfiaadjdbemnaaGreatDoorLFound05
set_option linter.unusedSimpArgs false
set_option linter.unusedVariables false
namespace Go.Proofs.YtmfiaadjdbemnaaGreatDoor
section
open Go.RowKit Go.Shelf
def mS (s:List UInt8) (j:Nat):Array Value:=((List.range 16).map (fun i=>if i<j then aq s i else .int .u8 0)).toArray
theorem uN (s:List UInt8):mS s 0=am z16:=by kernel_rfl
theorem uM (s:List UInt8):mS s 16=am (s.take 16):=by
 have h:∀i∈List.range 16,(if i<16 then aq s i else .int .u8 0)=aq (s.take 16) i:=by
  intro i hi;have hi':=List.mem_range.1 hi;rw[G_ hi',uE s i hi']
 unfold mS;rw[List.map_congr_left h]
 rfl
theorem xg (s:List UInt8) (j:Nat) (hj:j<16):(mS s j).setIfInBounds j (.int .u8 (B8 (byteAt s j)))=mS s (j+1):=by
 rcases (by omega:j=0∨j=1∨j=2∨j=3∨j=4∨j=5∨j=6∨j=7∨j=8∨j=9∨j=10∨j=11∨j=12∨j=13∨j=14∨j=15) with rfl|rfl|rfl|rfl|rfl|rfl|rfl|rfl|rfl|rfl|rfl|rfl|rfl|rfl|rfl|rfl <;> rfl
theorem AL (s:List UInt8) (j:Nat) (hj:j<16):(mS s j)[j]?=some (.int .u8 0):=by
 rcases (by omega:j=0∨j=1∨j=2∨j=3∨j=4∨j=5∨j=6∨j=7∨j=8∨j=9∨j=10∨j=11∨j=12∨j=13∨j=14∨j=15) with rfl|rfl|rfl|rfl|rfl|rfl|rfl|rfl|rfl|rfl|rfl|rfl|rfl|rfl|rfl|rfl <;> rfl
attribute [local irreducible] Calls am mS
attribute [local irreducible] kc aE aB dZ fV kN
end
end Go.Proofs.YtmfiaadjdbemnaaGreatDoor
