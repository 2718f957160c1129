/- Contracts and lemmas. No condition. -/
import Derived.Test.YtmfiaadjdbemnaaGreatDoorSB32
import Derived.Test.YtmfiaadjdbemnaaGreatDoorLAny04
import Derived.Test.YtmfiaadjdbemnaaGreatDoorLAny05
namespace Go.Proofs.YtmfiaadjdbemnaaGreatDoor
section
open Go.RowKit
theorem NR:ci []=1:=by unfold ci eO qu;simp
end
end Go.Proofs.YtmfiaadjdbemnaaGreatDoor
