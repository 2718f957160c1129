/- Contracts and lemmas. No condition. -/
import Derived.Test.YtmfiaadjdbemnaaGreatDoorSB22
import Derived.Test.YtmfiaadjdbemnaaGreatDoorLSm01
import Derived.Test.YtmfiaadjdbemnaaGreatDoorLSm02
set_option linter.unusedSimpArgs false
set_option linter.unusedVariables false
namespace Go.Proofs.YtmfiaadjdbemnaaGreatDoor
section
open Go.RowKit Go.Shelf
attribute [local irreducible] Calls am
theorem RdE.form {α:Type} {E:El α} {w:World} {v:Value} {l:List α} (h:RdE E w v l):∃a c,v = .slice a l.length c:=by
 obtain⟨a,c,rfl,_⟩:=h;exact⟨a,c,rfl⟩
attribute [local irreducible] kc aE aB dZ fV kN
end
end Go.Proofs.YtmfiaadjdbemnaaGreatDoor
