/- Two short names. No condition. -/
import Derived.Lib.Hide
namespace Go.Proofs.YtmfiaadjdbemnaaGreatDoor
theorem O {p:Prop} (h:p):Go.RowKit.Hid p:=Go.Lib.hid h
theorem Oo (B:Nat) (w:World):Below B w w:=Below.refl B w
end Go.Proofs.YtmfiaadjdbemnaaGreatDoor
