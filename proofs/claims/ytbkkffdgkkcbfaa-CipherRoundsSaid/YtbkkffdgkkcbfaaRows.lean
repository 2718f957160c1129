/-
  No cell of these rows narrows 'for every input' (looked for: loops, veiled, ifaces, maps, wideKeys, modest, calm, conditions, laid).
  DERIVED. THE GIVEN ROWS OF THIS SEAT. 6 by the template 'for every input the law returns true; each argument reads behind the call as it read before'; 0 by the template 'total and deterministic' (their statements: YtbkkffdgkkcbfaaTotals.lean).
  GIVEN WITH THE SEED: the statements are not yours to turn. If you find one false, say at which input.
  Laid BY PROGRAM, IN A SANDBOX (cutbox-rows.mjs): the forced cells as the released guide's own fill.sh prints them over the translation 9f39661754fb9605… (all of the seat's roots in one cut). By AI agents, Wed Nov 11 2026. No macro, syntax, notation, axiom, sorry.
-/
import Derived.Test.YtbkkffdgkkcbfaaChecked
import GoSem.Claim
import GoSem.ClaimJoined
import GoSem.ClaimMapViews
import Derived.JoinedTies
import Derived.KernelRfl
namespace Go.Proofs.Ytbkkffdgkkcbfaa
/- THE CELL 'sum', in the pinned program and in every row, IS THE sha256 OF THE DUMP (.gsa) THAT YtbkkffdgkkcbfaaProg.lean LOADS. Nothing in Lean hashes anything: it is a label: what it is worth is what the hold of that sum in a sandbox is worth. -/
noncomputable def Try.pinned : Pinned := { name := "ytbkkffdgkkcbfaa", sum := "9f39661754fb96055063e3b92902bbb5fc5266ae84800a304abbed19fa68d066", checked := Try.checked }
namespace Rows
def none {H : Type} : Left H := { results := [], args := [] }

/-- 'custodylaw03.CipherMatchesSpec': WHATEVER THE INPUT: true; the input reads as it did. -/
def cipherMatchesSpecSpec : ChangeSpec := { name := "cipherMatchesSpec", fn := fun _ => fun
  | [d1, d2, d3] => { results := [.lit (.bool true)], args := [d1, d2, d3] }
  | _ => none }
def cipherMatchesSpecRow : OpenClaim := { program := "ytbkkffdgkkcbfaa", sum := "9f39661754fb96055063e3b92902bbb5fc5266ae84800a304abbed19fa68d066", func := "custody/custodylaw03.CipherMatchesSpec", spec := "cipherMatchesSpec", apart := false }
def CipherMatchesSpecSaid : Prop := cipherMatchesSpecRow.holds Try.pinned (OpenSpec.ofChange cipherMatchesSpecSpec)

/-- ITS FALSE NEIGHBOUR: 'it returns false'. Refute it at one input. -/
def cipherMatchesSpecWrong : ChangeSpec := { name := "cipherMatchesSpec", fn := fun _ => fun
  | [d1, d2, d3] => { results := [.lit (.bool false)], args := [d1, d2, d3] }
  | _ => none }
def CipherMatchesSpecWrongFalsely : Prop := cipherMatchesSpecRow.holds Try.pinned (OpenSpec.ofChange cipherMatchesSpecWrong)

/-- 'custodylaw03.CipherRounds': WHATEVER THE INPUT: true; the input reads as it did. -/
def cipherRoundsSpec : ChangeSpec := { name := "cipherRounds", fn := fun _ => fun
  | [d] => { results := [.lit (.bool true)], args := [d] }
  | _ => none }
def cipherRoundsRow : OpenClaim := { program := "ytbkkffdgkkcbfaa", sum := "9f39661754fb96055063e3b92902bbb5fc5266ae84800a304abbed19fa68d066", func := "custody/custodylaw03.CipherRounds", spec := "cipherRounds", apart := false }
def CipherRoundsSaid : Prop := cipherRoundsRow.holds Try.pinned (OpenSpec.ofChange cipherRoundsSpec)

/-- ITS FALSE NEIGHBOUR: 'it returns false'. Refute it at one input. -/
def cipherRoundsWrong : ChangeSpec := { name := "cipherRounds", fn := fun _ => fun
  | [d] => { results := [.lit (.bool false)], args := [d] }
  | _ => none }
def CipherRoundsWrongFalsely : Prop := cipherRoundsRow.holds Try.pinned (OpenSpec.ofChange cipherRoundsWrong)

/-- 'custodylaw03.CipherXorMatchesSpec': WHATEVER THE INPUT: true; the input reads as it did. -/
def cipherXorMatchesSpecSpec : ChangeSpec := { name := "cipherXorMatchesSpec", fn := fun _ => fun
  | [d1, d2, d3, d4] => { results := [.lit (.bool true)], args := [d1, d2, d3, d4] }
  | _ => none }
def cipherXorMatchesSpecRow : OpenClaim := { program := "ytbkkffdgkkcbfaa", sum := "9f39661754fb96055063e3b92902bbb5fc5266ae84800a304abbed19fa68d066", func := "custody/custodylaw03.CipherXorMatchesSpec", spec := "cipherXorMatchesSpec", apart := false }
def CipherXorMatchesSpecSaid : Prop := cipherXorMatchesSpecRow.holds Try.pinned (OpenSpec.ofChange cipherXorMatchesSpecSpec)

/-- ITS FALSE NEIGHBOUR: 'it returns false'. Refute it at one input. -/
def cipherXorMatchesSpecWrong : ChangeSpec := { name := "cipherXorMatchesSpec", fn := fun _ => fun
  | [d1, d2, d3, d4] => { results := [.lit (.bool false)], args := [d1, d2, d3, d4] }
  | _ => none }
def CipherXorMatchesSpecWrongFalsely : Prop := cipherXorMatchesSpecRow.holds Try.pinned (OpenSpec.ofChange cipherXorMatchesSpecWrong)

/-- 'custodylaw03.CipherXorTwice': WHATEVER THE INPUT: true; the input reads as it did. -/
def cipherXorTwiceSpec : ChangeSpec := { name := "cipherXorTwice", fn := fun _ => fun
  | [d1, d2, d3, d4] => { results := [.lit (.bool true)], args := [d1, d2, d3, d4] }
  | _ => none }
def cipherXorTwiceRow : OpenClaim := { program := "ytbkkffdgkkcbfaa", sum := "9f39661754fb96055063e3b92902bbb5fc5266ae84800a304abbed19fa68d066", func := "custody/custodylaw03.CipherXorTwice", spec := "cipherXorTwice", apart := false }
def CipherXorTwiceSaid : Prop := cipherXorTwiceRow.holds Try.pinned (OpenSpec.ofChange cipherXorTwiceSpec)

/-- ITS FALSE NEIGHBOUR: 'it returns false'. Refute it at one input. -/
def cipherXorTwiceWrong : ChangeSpec := { name := "cipherXorTwice", fn := fun _ => fun
  | [d1, d2, d3, d4] => { results := [.lit (.bool false)], args := [d1, d2, d3, d4] }
  | _ => none }
def CipherXorTwiceWrongFalsely : Prop := cipherXorTwiceRow.holds Try.pinned (OpenSpec.ofChange cipherXorTwiceWrong)

/-- 'custodylaw03.CipherSeek': WHATEVER THE INPUT: true; the input reads as it did. -/
def cipherSeekSpec : ChangeSpec := { name := "cipherSeek", fn := fun _ => fun
  | [d1, d2, d3, d4, d5] => { results := [.lit (.bool true)], args := [d1, d2, d3, d4, d5] }
  | _ => none }
def cipherSeekRow : OpenClaim := { program := "ytbkkffdgkkcbfaa", sum := "9f39661754fb96055063e3b92902bbb5fc5266ae84800a304abbed19fa68d066", func := "custody/custodylaw03.CipherSeek", spec := "cipherSeek", apart := false }
def CipherSeekSaid : Prop := cipherSeekRow.holds Try.pinned (OpenSpec.ofChange cipherSeekSpec)

/-- ITS FALSE NEIGHBOUR: 'it returns false'. Refute it at one input. -/
def cipherSeekWrong : ChangeSpec := { name := "cipherSeek", fn := fun _ => fun
  | [d1, d2, d3, d4, d5] => { results := [.lit (.bool false)], args := [d1, d2, d3, d4, d5] }
  | _ => none }
def CipherSeekWrongFalsely : Prop := cipherSeekRow.holds Try.pinned (OpenSpec.ofChange cipherSeekWrong)

/-- 'custodylaw03.CipherPrefix': WHATEVER THE INPUT: true; the input reads as it did. -/
def cipherPrefixSpec : ChangeSpec := { name := "cipherPrefix", fn := fun _ => fun
  | [d1, d2, d3, d4, d5, d6] => { results := [.lit (.bool true)], args := [d1, d2, d3, d4, d5, d6] }
  | _ => none }
def cipherPrefixRow : OpenClaim := { program := "ytbkkffdgkkcbfaa", sum := "9f39661754fb96055063e3b92902bbb5fc5266ae84800a304abbed19fa68d066", func := "custody/custodylaw03.CipherPrefix", spec := "cipherPrefix", apart := false }
def CipherPrefixSaid : Prop := cipherPrefixRow.holds Try.pinned (OpenSpec.ofChange cipherPrefixSpec)

/-- ITS FALSE NEIGHBOUR: 'it returns false'. Refute it at one input. -/
def cipherPrefixWrong : ChangeSpec := { name := "cipherPrefix", fn := fun _ => fun
  | [d1, d2, d3, d4, d5, d6] => { results := [.lit (.bool false)], args := [d1, d2, d3, d4, d5, d6] }
  | _ => none }
def CipherPrefixWrongFalsely : Prop := cipherPrefixRow.holds Try.pinned (OpenSpec.ofChange cipherPrefixWrong)

/- THE SECOND FORM. 'bulk': how many values and letters a reading holds, each counted each time it is reached (what is shared counts as often as it is met; a slice's spare places count too). A statement '..UptoSaid' is the law's where the arguments, and the package variables that the reading takes, are together of bulk at most 1048576: NARROWER than '..Said'. Prove '..Said' where nothing that the law and all that it calls make is longer than what came in: it says more and counts as full. Else prove '..UptoSaid'. A law counts once. -/
mutual
def uptoBulk {H : Type} : DataW H → Nat
  | .lit (.string bytes) => bytes.length + 1
  | .lit _ => 1
  | .nil => 1
  | .ptr d => uptoBulk d + 1
  | .slice elems spare => uptoBulkAll elems + uptoBulkAll spare + 1
  | .agg parts => uptoBulkAll parts + 1
  | .iface _ d => uptoBulk d + 1
  | .map entries => uptoBulkEntries entries + 1
  | .held _ => 1
def uptoBulkAll {H : Type} : List (DataW H) → Nat
  | [] => 0
  | d :: r => uptoBulk d + uptoBulkAll r
def uptoBulkEntries {H : Type} : List (Lit × DataW H) → Nat
  | [] => 0
  | x :: r => uptoBulkEntry x + uptoBulkEntries r
def uptoBulkEntry {H : Type} : Lit × DataW H → Nat
  | (.string bytes, d) => bytes.length + uptoBulk d + 1
  | (_, d) => uptoBulk d + 1
 end
def uptoSmall : (H : Type) → List (DataW H) → Bool := fun _ ds => decide (uptoBulkAll ds ≤ 1048576)
def OpenSpec.upto (s : _root_.Go.ChangeSpec) : _root_.Go.OpenSpec := { _root_.Go.OpenSpec.ofChange s with cond := some uptoSmall }

/-- 'custodylaw03.CipherMatchesSpec', WHERE WHAT IT READS IS OF BULK AT MOST 1048576: true; the input reads as it did. -/
def cipherMatchesSpecUptoRow : OpenClaim := { program := "ytbkkffdgkkcbfaa", sum := "9f39661754fb96055063e3b92902bbb5fc5266ae84800a304abbed19fa68d066", func := "custody/custodylaw03.CipherMatchesSpec", spec := "cipherMatchesSpec", apart := false, narrowed := true }
def CipherMatchesSpecUptoSaid : Prop := cipherMatchesSpecUptoRow.holds Try.pinned (OpenSpec.upto cipherMatchesSpecSpec)

/-- 'custodylaw03.CipherRounds', WHERE WHAT IT READS IS OF BULK AT MOST 1048576: true; the input reads as it did. -/
def cipherRoundsUptoRow : OpenClaim := { program := "ytbkkffdgkkcbfaa", sum := "9f39661754fb96055063e3b92902bbb5fc5266ae84800a304abbed19fa68d066", func := "custody/custodylaw03.CipherRounds", spec := "cipherRounds", apart := false, narrowed := true }
def CipherRoundsUptoSaid : Prop := cipherRoundsUptoRow.holds Try.pinned (OpenSpec.upto cipherRoundsSpec)

/-- 'custodylaw03.CipherXorMatchesSpec', WHERE WHAT IT READS IS OF BULK AT MOST 1048576: true; the input reads as it did. -/
def cipherXorMatchesSpecUptoRow : OpenClaim := { program := "ytbkkffdgkkcbfaa", sum := "9f39661754fb96055063e3b92902bbb5fc5266ae84800a304abbed19fa68d066", func := "custody/custodylaw03.CipherXorMatchesSpec", spec := "cipherXorMatchesSpec", apart := false, narrowed := true }
def CipherXorMatchesSpecUptoSaid : Prop := cipherXorMatchesSpecUptoRow.holds Try.pinned (OpenSpec.upto cipherXorMatchesSpecSpec)

/-- 'custodylaw03.CipherXorTwice', WHERE WHAT IT READS IS OF BULK AT MOST 1048576: true; the input reads as it did. -/
def cipherXorTwiceUptoRow : OpenClaim := { program := "ytbkkffdgkkcbfaa", sum := "9f39661754fb96055063e3b92902bbb5fc5266ae84800a304abbed19fa68d066", func := "custody/custodylaw03.CipherXorTwice", spec := "cipherXorTwice", apart := false, narrowed := true }
def CipherXorTwiceUptoSaid : Prop := cipherXorTwiceUptoRow.holds Try.pinned (OpenSpec.upto cipherXorTwiceSpec)

/-- 'custodylaw03.CipherSeek', WHERE WHAT IT READS IS OF BULK AT MOST 1048576: true; the input reads as it did. -/
def cipherSeekUptoRow : OpenClaim := { program := "ytbkkffdgkkcbfaa", sum := "9f39661754fb96055063e3b92902bbb5fc5266ae84800a304abbed19fa68d066", func := "custody/custodylaw03.CipherSeek", spec := "cipherSeek", apart := false, narrowed := true }
def CipherSeekUptoSaid : Prop := cipherSeekUptoRow.holds Try.pinned (OpenSpec.upto cipherSeekSpec)

/-- 'custodylaw03.CipherPrefix', WHERE WHAT IT READS IS OF BULK AT MOST 1048576: true; the input reads as it did. -/
def cipherPrefixUptoRow : OpenClaim := { program := "ytbkkffdgkkcbfaa", sum := "9f39661754fb96055063e3b92902bbb5fc5266ae84800a304abbed19fa68d066", func := "custody/custodylaw03.CipherPrefix", spec := "cipherPrefix", apart := false, narrowed := true }
def CipherPrefixUptoSaid : Prop := cipherPrefixUptoRow.holds Try.pinned (OpenSpec.upto cipherPrefixSpec)

end Rows
end Go.Proofs.Ytbkkffdgkkcbfaa
