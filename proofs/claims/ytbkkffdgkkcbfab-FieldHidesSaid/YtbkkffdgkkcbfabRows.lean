/-
  No cell of these rows narrows 'for every input' (looked for: loops, veiled, ifaces, maps, wideKeys, modest, calm, conditions, laid).
  DERIVED. THE GIVEN ROWS OF THIS SEAT. 6 by the template 'for every input the law returns true; each argument reads behind the call as it read before'; 0 by the template 'total and deterministic' (their statements: YtbkkffdgkkcbfabTotals.lean).
  GIVEN WITH THE SEED: the statements are not yours to turn. If you find one false, say at which input.
  Laid BY PROGRAM, IN A SANDBOX (cutbox-rows.mjs): the forced cells as the released guide's own fill.sh prints them over the translation 92d8e7cea48e853f… (all of the seat's roots in one cut). By AI agents, Wed Nov 11 2026. No macro, syntax, notation, axiom, sorry.
-/
import Derived.Test.YtbkkffdgkkcbfabChecked
import GoSem.Claim
import GoSem.ClaimJoined
import GoSem.ClaimMapViews
import Derived.JoinedTies
import Derived.KernelRfl
namespace Go.Proofs.Ytbkkffdgkkcbfab
/- THE CELL 'sum', in the pinned program and in every row, IS THE sha256 OF THE DUMP (.gsa) THAT YtbkkffdgkkcbfabProg.lean LOADS. Nothing in Lean hashes anything: it is a label: what it is worth is what the hold of that sum in a sandbox is worth. -/
noncomputable def Try.pinned : Pinned := { name := "ytbkkffdgkkcbfab", sum := "92d8e7cea48e853fe37ade8c6b00c9446fabf04e2455fcc7c12cf3a292aa1766", checked := Try.checked }
namespace Rows
def none {H : Type} : Left H := { results := [], args := [] }

/-- 'custodylaw06.FieldMatchesSpec': WHATEVER THE INPUT: true; the input reads as it did. -/
def fieldMatchesSpecSpec : ChangeSpec := { name := "fieldMatchesSpec", fn := fun _ => fun
  | [d1, d2] => { results := [.lit (.bool true)], args := [d1, d2] }
  | _ => none }
def fieldMatchesSpecRow : OpenClaim := { program := "ytbkkffdgkkcbfab", sum := "92d8e7cea48e853fe37ade8c6b00c9446fabf04e2455fcc7c12cf3a292aa1766", func := "custody/custodylaw06.FieldMatchesSpec", spec := "fieldMatchesSpec", unfollowed := true, recurses := true, apart := false }
def FieldMatchesSpecSaid : Prop := fieldMatchesSpecRow.holds Try.pinned (OpenSpec.ofChange fieldMatchesSpecSpec)

/-- ITS FALSE NEIGHBOUR: 'it returns false'. Refute it at one input. -/
def fieldMatchesSpecWrong : ChangeSpec := { name := "fieldMatchesSpec", fn := fun _ => fun
  | [d1, d2] => { results := [.lit (.bool false)], args := [d1, d2] }
  | _ => none }
def FieldMatchesSpecWrongFalsely : Prop := fieldMatchesSpecRow.holds Try.pinned (OpenSpec.ofChange fieldMatchesSpecWrong)

/-- 'custodylaw06.FieldAxioms': WHATEVER THE INPUT: true; the input reads as it did. -/
def fieldAxiomsSpec : ChangeSpec := { name := "fieldAxioms", fn := fun _ => fun
  | [d1, d2, d3] => { results := [.lit (.bool true)], args := [d1, d2, d3] }
  | _ => none }
def fieldAxiomsRow : OpenClaim := { program := "ytbkkffdgkkcbfab", sum := "92d8e7cea48e853fe37ade8c6b00c9446fabf04e2455fcc7c12cf3a292aa1766", func := "custody/custodylaw06.FieldAxioms", spec := "fieldAxioms", unfollowed := true, recurses := true, apart := false }
def FieldAxiomsSaid : Prop := fieldAxiomsRow.holds Try.pinned (OpenSpec.ofChange fieldAxiomsSpec)

/-- ITS FALSE NEIGHBOUR: 'it returns false'. Refute it at one input. -/
def fieldAxiomsWrong : ChangeSpec := { name := "fieldAxioms", fn := fun _ => fun
  | [d1, d2, d3] => { results := [.lit (.bool false)], args := [d1, d2, d3] }
  | _ => none }
def FieldAxiomsWrongFalsely : Prop := fieldAxiomsRow.holds Try.pinned (OpenSpec.ofChange fieldAxiomsWrong)

/-- 'custodylaw06.FieldPolynomialsMatchSpec': WHATEVER THE INPUT: true; the input reads as it did. -/
def fieldPolynomialsMatchSpecSpec : ChangeSpec := { name := "fieldPolynomialsMatchSpec", fn := fun _ => fun
  | [d1, d2, d3] => { results := [.lit (.bool true)], args := [d1, d2, d3] }
  | _ => none }
def fieldPolynomialsMatchSpecRow : OpenClaim := { program := "ytbkkffdgkkcbfab", sum := "92d8e7cea48e853fe37ade8c6b00c9446fabf04e2455fcc7c12cf3a292aa1766", func := "custody/custodylaw06.FieldPolynomialsMatchSpec", spec := "fieldPolynomialsMatchSpec", unfollowed := true, recurses := true, apart := false }
def FieldPolynomialsMatchSpecSaid : Prop := fieldPolynomialsMatchSpecRow.holds Try.pinned (OpenSpec.ofChange fieldPolynomialsMatchSpecSpec)

/-- ITS FALSE NEIGHBOUR: 'it returns false'. Refute it at one input. -/
def fieldPolynomialsMatchSpecWrong : ChangeSpec := { name := "fieldPolynomialsMatchSpec", fn := fun _ => fun
  | [d1, d2, d3] => { results := [.lit (.bool false)], args := [d1, d2, d3] }
  | _ => none }
def FieldPolynomialsMatchSpecWrongFalsely : Prop := fieldPolynomialsMatchSpecRow.holds Try.pinned (OpenSpec.ofChange fieldPolynomialsMatchSpecWrong)

/-- 'custodylaw06.FieldInterpolates': WHATEVER THE INPUT: true; the input reads as it did. -/
def fieldInterpolatesSpec : ChangeSpec := { name := "fieldInterpolates", fn := fun _ => fun
  | [d1, d2, d3] => { results := [.lit (.bool true)], args := [d1, d2, d3] }
  | _ => none }
def fieldInterpolatesRow : OpenClaim := { program := "ytbkkffdgkkcbfab", sum := "92d8e7cea48e853fe37ade8c6b00c9446fabf04e2455fcc7c12cf3a292aa1766", func := "custody/custodylaw06.FieldInterpolates", spec := "fieldInterpolates", unfollowed := true, recurses := true, apart := false }
def FieldInterpolatesSaid : Prop := fieldInterpolatesRow.holds Try.pinned (OpenSpec.ofChange fieldInterpolatesSpec)

/-- ITS FALSE NEIGHBOUR: 'it returns false'. Refute it at one input. -/
def fieldInterpolatesWrong : ChangeSpec := { name := "fieldInterpolates", fn := fun _ => fun
  | [d1, d2, d3] => { results := [.lit (.bool false)], args := [d1, d2, d3] }
  | _ => none }
def FieldInterpolatesWrongFalsely : Prop := fieldInterpolatesRow.holds Try.pinned (OpenSpec.ofChange fieldInterpolatesWrong)

/-- 'custodylaw06.FieldWeights': WHATEVER THE INPUT: true; the input reads as it did. -/
def fieldWeightsSpec : ChangeSpec := { name := "fieldWeights", fn := fun _ => fun
  | [d1, d2, d3] => { results := [.lit (.bool true)], args := [d1, d2, d3] }
  | _ => none }
def fieldWeightsRow : OpenClaim := { program := "ytbkkffdgkkcbfab", sum := "92d8e7cea48e853fe37ade8c6b00c9446fabf04e2455fcc7c12cf3a292aa1766", func := "custody/custodylaw06.FieldWeights", spec := "fieldWeights", unfollowed := true, recurses := true, apart := false }
def FieldWeightsSaid : Prop := fieldWeightsRow.holds Try.pinned (OpenSpec.ofChange fieldWeightsSpec)

/-- ITS FALSE NEIGHBOUR: 'it returns false'. Refute it at one input. -/
def fieldWeightsWrong : ChangeSpec := { name := "fieldWeights", fn := fun _ => fun
  | [d1, d2, d3] => { results := [.lit (.bool false)], args := [d1, d2, d3] }
  | _ => none }
def FieldWeightsWrongFalsely : Prop := fieldWeightsRow.holds Try.pinned (OpenSpec.ofChange fieldWeightsWrong)

/-- 'custodylaw06.FieldHides': WHATEVER THE INPUT: true; the input reads as it did. -/
def fieldHidesSpec : ChangeSpec := { name := "fieldHides", fn := fun _ => fun
  | [d1, d2, d3, d4, d5] => { results := [.lit (.bool true)], args := [d1, d2, d3, d4, d5] }
  | _ => none }
def fieldHidesRow : OpenClaim := { program := "ytbkkffdgkkcbfab", sum := "92d8e7cea48e853fe37ade8c6b00c9446fabf04e2455fcc7c12cf3a292aa1766", func := "custody/custodylaw06.FieldHides", spec := "fieldHides", unfollowed := true, recurses := true, apart := false }
def FieldHidesSaid : Prop := fieldHidesRow.holds Try.pinned (OpenSpec.ofChange fieldHidesSpec)

/-- ITS FALSE NEIGHBOUR: 'it returns false'. Refute it at one input. -/
def fieldHidesWrong : ChangeSpec := { name := "fieldHides", fn := fun _ => fun
  | [d1, d2, d3, d4, d5] => { results := [.lit (.bool false)], args := [d1, d2, d3, d4, d5] }
  | _ => none }
def FieldHidesWrongFalsely : Prop := fieldHidesRow.holds Try.pinned (OpenSpec.ofChange fieldHidesWrong)

/- THE SECOND FORM. 'bulk': how many values and letters a reading holds, each counted each time it is reached (what is shared counts as often as it is met; a slice's spare places count too). A statement '..UptoSaid' is the law's where the arguments, and the package variables that the reading takes, are together of bulk at most 1048576: NARROWER than '..Said'. Prove '..Said' where nothing that the law and all that it calls make is longer than what came in: it says more and counts as full. Else prove '..UptoSaid'. A law counts once. -/
mutual
def uptoBulk {H : Type} : DataW H → Nat
  | .lit (.string bytes) => bytes.length + 1
  | .lit _ => 1
  | .nil => 1
  | .ptr d => uptoBulk d + 1
  | .slice elems spare => uptoBulkAll elems + uptoBulkAll spare + 1
  | .agg parts => uptoBulkAll parts + 1
  | .iface _ d => uptoBulk d + 1
  | .map entries => uptoBulkEntries entries + 1
  | .held _ => 1
def uptoBulkAll {H : Type} : List (DataW H) → Nat
  | [] => 0
  | d :: r => uptoBulk d + uptoBulkAll r
def uptoBulkEntries {H : Type} : List (Lit × DataW H) → Nat
  | [] => 0
  | x :: r => uptoBulkEntry x + uptoBulkEntries r
def uptoBulkEntry {H : Type} : Lit × DataW H → Nat
  | (.string bytes, d) => bytes.length + uptoBulk d + 1
  | (_, d) => uptoBulk d + 1
 end
def uptoSmall : (H : Type) → List (DataW H) → Bool := fun _ ds => decide (uptoBulkAll ds ≤ 1048576)
def OpenSpec.upto (s : _root_.Go.ChangeSpec) : _root_.Go.OpenSpec := { _root_.Go.OpenSpec.ofChange s with cond := some uptoSmall }

/-- 'custodylaw06.FieldMatchesSpec', WHERE WHAT IT READS IS OF BULK AT MOST 1048576: true; the input reads as it did. -/
def fieldMatchesSpecUptoRow : OpenClaim := { program := "ytbkkffdgkkcbfab", sum := "92d8e7cea48e853fe37ade8c6b00c9446fabf04e2455fcc7c12cf3a292aa1766", func := "custody/custodylaw06.FieldMatchesSpec", spec := "fieldMatchesSpec", unfollowed := true, recurses := true, apart := false, narrowed := true }
def FieldMatchesSpecUptoSaid : Prop := fieldMatchesSpecUptoRow.holds Try.pinned (OpenSpec.upto fieldMatchesSpecSpec)

/-- 'custodylaw06.FieldAxioms', WHERE WHAT IT READS IS OF BULK AT MOST 1048576: true; the input reads as it did. -/
def fieldAxiomsUptoRow : OpenClaim := { program := "ytbkkffdgkkcbfab", sum := "92d8e7cea48e853fe37ade8c6b00c9446fabf04e2455fcc7c12cf3a292aa1766", func := "custody/custodylaw06.FieldAxioms", spec := "fieldAxioms", unfollowed := true, recurses := true, apart := false, narrowed := true }
def FieldAxiomsUptoSaid : Prop := fieldAxiomsUptoRow.holds Try.pinned (OpenSpec.upto fieldAxiomsSpec)

/-- 'custodylaw06.FieldPolynomialsMatchSpec', WHERE WHAT IT READS IS OF BULK AT MOST 1048576: true; the input reads as it did. -/
def fieldPolynomialsMatchSpecUptoRow : OpenClaim := { program := "ytbkkffdgkkcbfab", sum := "92d8e7cea48e853fe37ade8c6b00c9446fabf04e2455fcc7c12cf3a292aa1766", func := "custody/custodylaw06.FieldPolynomialsMatchSpec", spec := "fieldPolynomialsMatchSpec", unfollowed := true, recurses := true, apart := false, narrowed := true }
def FieldPolynomialsMatchSpecUptoSaid : Prop := fieldPolynomialsMatchSpecUptoRow.holds Try.pinned (OpenSpec.upto fieldPolynomialsMatchSpecSpec)

/-- 'custodylaw06.FieldInterpolates', WHERE WHAT IT READS IS OF BULK AT MOST 1048576: true; the input reads as it did. -/
def fieldInterpolatesUptoRow : OpenClaim := { program := "ytbkkffdgkkcbfab", sum := "92d8e7cea48e853fe37ade8c6b00c9446fabf04e2455fcc7c12cf3a292aa1766", func := "custody/custodylaw06.FieldInterpolates", spec := "fieldInterpolates", unfollowed := true, recurses := true, apart := false, narrowed := true }
def FieldInterpolatesUptoSaid : Prop := fieldInterpolatesUptoRow.holds Try.pinned (OpenSpec.upto fieldInterpolatesSpec)

/-- 'custodylaw06.FieldWeights', WHERE WHAT IT READS IS OF BULK AT MOST 1048576: true; the input reads as it did. -/
def fieldWeightsUptoRow : OpenClaim := { program := "ytbkkffdgkkcbfab", sum := "92d8e7cea48e853fe37ade8c6b00c9446fabf04e2455fcc7c12cf3a292aa1766", func := "custody/custodylaw06.FieldWeights", spec := "fieldWeights", unfollowed := true, recurses := true, apart := false, narrowed := true }
def FieldWeightsUptoSaid : Prop := fieldWeightsUptoRow.holds Try.pinned (OpenSpec.upto fieldWeightsSpec)

/-- 'custodylaw06.FieldHides', WHERE WHAT IT READS IS OF BULK AT MOST 1048576: true; the input reads as it did. -/
def fieldHidesUptoRow : OpenClaim := { program := "ytbkkffdgkkcbfab", sum := "92d8e7cea48e853fe37ade8c6b00c9446fabf04e2455fcc7c12cf3a292aa1766", func := "custody/custodylaw06.FieldHides", spec := "fieldHides", unfollowed := true, recurses := true, apart := false, narrowed := true }
def FieldHidesUptoSaid : Prop := fieldHidesUptoRow.holds Try.pinned (OpenSpec.upto fieldHidesSpec)

end Rows
end Go.Proofs.Ytbkkffdgkkcbfab
