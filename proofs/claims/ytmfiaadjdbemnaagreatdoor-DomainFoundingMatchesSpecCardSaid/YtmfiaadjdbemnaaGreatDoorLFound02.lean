/- Contracts and lemmas. No condition. -/
import Derived.Test.YtmfiaadjdbemnaaGreatDoorSB01
namespace Go.Proofs.YtmfiaadjdbemnaaGreatDoor
section
open Go.RowKit
variable {α:Type} {E:El α}
theorem yQ (w:World) (h0:E.c=E.c):ap E (w.alloc (.cells #[] E.T)) w.heap.size (.slice (some ⟨w.heap.size,0,none⟩) 0 0) [] :=
 ⟨by simp[El.flat],.inr ⟨w.heap.size,0,#[],rfl,Nat.le_refl _,heap_alloc_new _ _,Nat.le_refl _,by unfold maxLen;omega,by simp,by simp[El.flat]⟩⟩
end
end Go.Proofs.YtmfiaadjdbemnaaGreatDoor
