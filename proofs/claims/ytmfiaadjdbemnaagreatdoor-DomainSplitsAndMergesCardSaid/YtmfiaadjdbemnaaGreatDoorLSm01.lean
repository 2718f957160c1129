/- Contracts and lemmas. No condition. -/
import Derived.Test.YtmfiaadjdbemnaaGreatDoorSB17
set_option linter.unusedSimpArgs false
set_option linter.unusedVariables false
namespace Go.Proofs.YtmfiaadjdbemnaaGreatDoor
section
open Go.RowKit
variable {α:Type} {E:El α}
theorem ap.neOwn {β:Type} {F:El β} {w:World} {b1 b2:Nat} {v u:Value} {l:List α} {m:List β} (h:ap E w b1 v l) (h2:ap F w b2 u m) (hT:F.T≠E.T):∀g,u.ownBlock=some g→v.ownBlock≠some g:=by
 intro g hg
 rcases h2.2 with⟨rfl,_⟩|⟨g0,cap,cur,rfl,_,hgg,_⟩
 ·simp[Value.ownBlock] at hg
 ·simp only[Value.ownBlock,Option.some.injEq] at hg
  subst hg;exact h.neType hgg hT
end
section
open Go.RowKit
def z8:List UInt32:=List.replicate 8 0
attribute [local irreducible] Calls brow row sha gj
end
end Go.Proofs.YtmfiaadjdbemnaaGreatDoor
