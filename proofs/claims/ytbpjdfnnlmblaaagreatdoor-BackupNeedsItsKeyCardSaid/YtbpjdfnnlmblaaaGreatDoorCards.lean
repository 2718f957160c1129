/-
  DERIVED. GIVEN WITH THE SEED: THE CARDS: each row of YtbpjdfnnlmblaaaGreatDoorRows.lean that lists a variable, with what it lists TIED to the program's text (the seventh form; the later family's looks); each row that meets fmt, with fmt's text TOLD by the authors' own Lean function (tested against real Go, not proved from fmt's source: count such statements apart). THE CARD IS WHAT COUNTS. Prove the row's statement (the work); the ties are given (YtbpjdfnnlmblaaaGreatDoorTie.lean); close each card by the builder's one call (the guide's Derived/Test/ToyasCard.lean, 'card_holds'). Laid BY PROGRAM, IN A SANDBOX (cutbox-door.mjs). By AI agents, Wed Nov 11 2026. No macro, syntax, notation, axiom, sorry.
-/
import Derived.Test.YtbpjdfnnlmblaaaGreatDoorRows
import GoSem.ClaimSeven
namespace Go.Proofs.YtbpjdfnnlmblaaaGreatDoor
namespace Rows

/-- THE TIED CARD OF 'custodylaw36.BackupMatchesSpec'. -/
def backupMatchesSpecCard : Claim7 := { stood := { row := backupMatchesSpecRow, standIns := [], harness := (true, "ef7a6426a013144eed39fc36059d6dd24b9f8dcda9ad6e3ce46449ee196b509a"), looks := false }, kinds := [], alts := [], laidByText := true, laidKinds := [.data, .data], laidTests := true, laidLooks := .later }
def BackupMatchesSpecCardSaid : Prop := Claim7.holds Tryz.pinned (.plain (OpenSpec.ofChange backupMatchesSpecSpec)) backupMatchesSpecCard

/-- THE TIED CARD OF 'custodylaw36.BackupOpensAsSpecified'. -/
def backupOpensAsSpecifiedCard : Claim7 := { stood := { row := backupOpensAsSpecifiedRow, standIns := [], harness := (true, "ef7a6426a013144eed39fc36059d6dd24b9f8dcda9ad6e3ce46449ee196b509a"), looks := false }, kinds := [], alts := [], laidByText := true, laidKinds := [.data, .data], laidTests := true, laidLooks := .later }
def BackupOpensAsSpecifiedCardSaid : Prop := Claim7.holds Tryz.pinned (.plain (OpenSpec.ofChange backupOpensAsSpecifiedSpec)) backupOpensAsSpecifiedCard

/-- THE TIED CARD OF 'custodylaw36.BackupNeedsItsKey'. -/
def backupNeedsItsKeyCard : Claim7 := { stood := { row := backupNeedsItsKeyRow, standIns := [], harness := (true, "ef7a6426a013144eed39fc36059d6dd24b9f8dcda9ad6e3ce46449ee196b509a"), looks := false }, kinds := [], alts := [], laidByText := true, laidKinds := [.data, .data], laidTests := true, laidLooks := .later }
def BackupNeedsItsKeyCardSaid : Prop := Claim7.holds Tryz.pinned (.plain (OpenSpec.ofChange backupNeedsItsKeySpec)) backupNeedsItsKeyCard

/-- THE SECOND FORM's CARD OF 'custodylaw36.BackupMatchesSpec'. -/
def backupMatchesSpecUptoCard : Claim7 := { stood := { row := backupMatchesSpecUptoRow, standIns := [], harness := (true, "ef7a6426a013144eed39fc36059d6dd24b9f8dcda9ad6e3ce46449ee196b509a"), looks := false }, kinds := [], alts := [], laidByText := true, laidKinds := [.data, .data], laidTests := true, laidLooks := .later }
def BackupMatchesSpecUptoCardSaid : Prop := Claim7.holds Tryz.pinned (.plain (OpenSpec.upto backupMatchesSpecSpec)) backupMatchesSpecUptoCard

/-- THE SECOND FORM's CARD OF 'custodylaw36.BackupOpensAsSpecified'. -/
def backupOpensAsSpecifiedUptoCard : Claim7 := { stood := { row := backupOpensAsSpecifiedUptoRow, standIns := [], harness := (true, "ef7a6426a013144eed39fc36059d6dd24b9f8dcda9ad6e3ce46449ee196b509a"), looks := false }, kinds := [], alts := [], laidByText := true, laidKinds := [.data, .data], laidTests := true, laidLooks := .later }
def BackupOpensAsSpecifiedUptoCardSaid : Prop := Claim7.holds Tryz.pinned (.plain (OpenSpec.upto backupOpensAsSpecifiedSpec)) backupOpensAsSpecifiedUptoCard

/-- THE SECOND FORM's CARD OF 'custodylaw36.BackupNeedsItsKey'. -/
def backupNeedsItsKeyUptoCard : Claim7 := { stood := { row := backupNeedsItsKeyUptoRow, standIns := [], harness := (true, "ef7a6426a013144eed39fc36059d6dd24b9f8dcda9ad6e3ce46449ee196b509a"), looks := false }, kinds := [], alts := [], laidByText := true, laidKinds := [.data, .data], laidTests := true, laidLooks := .later }
def BackupNeedsItsKeyUptoCardSaid : Prop := Claim7.holds Tryz.pinned (.plain (OpenSpec.upto backupNeedsItsKeySpec)) backupNeedsItsKeyUptoCard
end Rows
end Go.Proofs.YtbpjdfnnlmblaaaGreatDoor
