/- What the laws need of the specification's Uses and Grant. -/
import Derived.Test.YtamdlkflcbefdaaDoorLawP
import Derived.Test.YtamdlkflcbefdaaDoorPermO
import Derived.Test.YtamdlkflcbefdaaDoorPermJ
import Derived.Deep.CutRange
namespace Go.Proofs.YtamdlkflcbefdaaDoor
open Go.RowKit Go.Shelf
theorem same_same (v u : Value) (S : List Int) (w : World) (hv : RdE eI w v S) (hu : RdE eI w u S) : Calls Tryd.prog 19 #[v, u] w fun e w' => e = .returned (.bool true) ∧ Below w.heap.size w w' := by
  have h := same_r v u S S w hv hu
  rw [decide_eq_true rfl] at h
  exact h
end Go.Proofs.YtamdlkflcbefdaaDoor
