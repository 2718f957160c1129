/- Contracts and lemmas. No condition. -/
import Derived.Test.YtmfiaadjdbemnaaGreatDoorSB02
set_option linter.unusedSimpArgs false
set_option linter.unusedVariables false
namespace Go.Proofs.YtmfiaadjdbemnaaGreatDoor
section
open Go.RowKit
variable {α:Type} {E:El α}
theorem yQ (w:World) (h0:E.c=E.c):ap E (w.alloc (.cells #[] E.T)) w.heap.size (.slice (some ⟨w.heap.size,0,none⟩) 0 0) [] :=
 ⟨by simp[El.flat],.inr ⟨w.heap.size,0,#[],rfl,A_ _,heap_alloc_new _ _,A_ _,by unfold maxLen;omega,by simp,by simp[El.flat]⟩⟩
end
end Go.Proofs.YtmfiaadjdbemnaaGreatDoor
