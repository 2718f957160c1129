/- Contracts and lemmas. No condition. -/
import Derived.Test.YtmfiaadjdbemnaaGreatDoorSB17
set_option linter.unusedSimpArgs false
set_option linter.unusedVariables false
namespace Go.Proofs.YtmfiaadjdbemnaaGreatDoor
section
open Go.RowKit
def z8:List UInt32:=List.replicate 8 0
attribute [local irreducible] Calls brow row sha gj
end
end Go.Proofs.YtmfiaadjdbemnaaGreatDoor
