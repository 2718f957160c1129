/- Two short names. No condition. -/
import Derived.Lib.Hide
namespace Go.Proofs.YtmfiaadjdbemnaaGreatDoor
theorem O {p:Prop} (h:p):Go.RowKit.Hid p:=Go.Lib.hid h
theorem Oo (B:Nat) (w:World):Go.RowKit.Below B w w:=Go.RowKit.Below.refl B w
end Go.Proofs.YtmfiaadjdbemnaaGreatDoor
